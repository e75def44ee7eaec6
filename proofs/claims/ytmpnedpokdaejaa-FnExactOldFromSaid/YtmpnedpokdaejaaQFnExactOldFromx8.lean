-- Written by this session's program wip/ownprint.py.
import Derived.Test.YtmpnedpokdaejaaQFnExactOldFromx0
import Derived.Test.YtmpnedpokdaejaaQFnExactOldFromx3
import Derived.Test.YtmpnedpokdaejaaQFnExactOldFromx6
import Derived.Test.YtmpnedpokdaejaaQFnExactOldFromx7
namespace Go.Proofs.Ytmpnedpokdaejaa.QFnExactOldFrom
open Go.RowKit Go.Proofs.YtmpnedpokdaejaaW.PrintWords Go.Proofs.YtmpnedpokdaejaaW.PrintLast Go.Proofs.YtmpnedpokdaejaaW.PrintMore
attribute [local go_sem] max2_int min2_int max_two min_two max_three min_three max_four min_four   -- for this text's walks alone
set_option linter.unusedVariables false
set_option linter.unusedSimpArgs false

/-! ### laws_FnExactOldFrom: function 14 -/
mutual
def laws_FnExactOldFrom.j0 : Nat → List Int → Bool → List Int → Bool → Bool → Int → Bool → Int → List Int → List Int → Bool → Bool → Int → Bool → Int → List Int → List Int → Bool → Bool → Option (Bool)
  | 0, _, _, _, _, _, _, _, _, _, _, _, _, _, _, _, _, _, _, _ => none
  | k + 1, x0, x4, x5, x7, x37, x336000, x336001, x336002, x336003, x336004, x336005, x336006, x352000, x352001, x352002, x352003, x352004, x352005, x352006 => if x37 = true then (some false) else ((laws_toIntS.f k x0).bind fun t353 => ((laws_eqIntS.f k x5 t353).bind fun t356 => (if t356 = true then ((laws_markIntS.f k x5 1).bind fun bt357 => (if bt357.1 < 0 then (laws_FnExactOldFrom.j1 k x0 x4 true x336000 x336001 x336002 x336003 x336004 x336005 x336006 x352000 x352001 x352002 x352003 x352004 x352005 x352006) else ((laws_eqOld.f k x352000 x352001 x352002 x352003 x352004 x352005 x352006 x336000 x336001 x336002 x336003 x336004 x336005 x336006).bind fun t359 => (if t359 = true then (laws_FnExactOldFrom.j1 k x0 x4 (x7 != x4) x336000 x336001 x336002 x336003 x336004 x336005 x336006 x352000 x352001 x352002 x352003 x352004 x352005 x352006) else (laws_FnExactOldFrom.j1 k x0 x4 true x336000 x336001 x336002 x336003 x336004 x336005 x336006 x352000 x352001 x352002 x352003 x352004 x352005 x352006))))) else (some false))))
def laws_FnExactOldFrom.j1 : Nat → List Int → Bool → Bool → Int → Bool → Int → List Int → List Int → Bool → Bool → Int → Bool → Int → List Int → List Int → Bool → Bool → Option (Bool)
  | 0, _, _, _, _, _, _, _, _, _, _, _, _, _, _, _, _, _ => none
  | k + 1, x0, x4, x58, x336000, x336001, x336002, x336003, x336004, x336005, x336006, x352000, x352001, x352002, x352003, x352004, x352005, x352006 => if x58 = true then (some false) else ((laws_markOld.f k x352000 x352001 x352002 x352003 x352004 x352005 x352006 1).bind fun bt360 => ((laws_heldOld.f k x352000 x352001 x352002 bt360.2.1 bt360.2.2 x352005 x352006 1).bind fun t363 => (if t363 < 0 then (some false) else (if t363 = bt360.1 then ((laws_toIntS.f k x0).bind fun t364 => ((impl_OldFrom.f k t364).bind fun bt367 => ((laws_eqOld.f k bt367.1 bt367.2.1 bt367.2.2.1 bt367.2.2.2.1 bt367.2.2.2.2.1 bt367.2.2.2.2.2.1 bt367.2.2.2.2.2.2.1 x336000 x336001 x336002 x336003 x336004 x336005 x336006).bind fun t380 => (if t380 = true then (laws_FnExactOldFrom.j2 k bt360.1 (bt367.2.2.2.2.2.2.2 != x4) x352000 x352001 x352002 bt360.2.1 bt360.2.2 x352005 x352006) else (laws_FnExactOldFrom.j2 k bt360.1 true x352000 x352001 x352002 bt360.2.1 bt360.2.2 x352005 x352006))))) else (some false)))))
def laws_FnExactOldFrom.j2 : Nat → Int → Bool → Int → Bool → Int → List Int → List Int → Bool → Bool → Option (Bool)
  | 0, _, _, _, _, _, _, _, _, _ => none
  | k + 1, x9, x84, x352000, x352001, x352002, x352003, x352004, x352005, x352006 => if x84 = true then (some false) else ((laws_heldOld.f k x352000 x352001 x352002 x352003 x352004 x352005 x352006 1).bind fun t381 => (if t381 < 0 then (some false) else (if t381 = x9 then (some true) else (some false))))
end
def laws_FnExactOldFrom.f (k : Nat) (l0 : List Int) : Option (Bool) := if (l0.length : Int) > 1048576 then (some true) else ((laws_toIntS.f k l0).bind fun t320 => ((spec_OldFrom.f k t320).bind fun bt323 => ((laws_toIntS.f k l0).bind fun t336 => ((impl_OldFrom.f k t336).bind fun bt339 => ((laws_eqOld.f k bt339.1 bt339.2.1 bt339.2.2.1 bt339.2.2.2.1 bt339.2.2.2.2.1 bt339.2.2.2.2.2.1 bt339.2.2.2.2.2.2.1 bt323.1 bt323.2.1 bt323.2.2.1 bt323.2.2.2.1 bt323.2.2.2.2.1 bt323.2.2.2.2.2.1 bt323.2.2.2.2.2.2.1).bind fun t352 => (if t352 = true then (laws_FnExactOldFrom.j0 k l0 bt323.2.2.2.2.2.2.2 t336 bt339.2.2.2.2.2.2.2 (bt339.2.2.2.2.2.2.2 != bt323.2.2.2.2.2.2.2) bt323.1 bt323.2.1 bt323.2.2.1 bt323.2.2.2.1 bt323.2.2.2.2.1 bt323.2.2.2.2.2.1 bt323.2.2.2.2.2.2.1 bt339.1 bt339.2.1 bt339.2.2.1 bt339.2.2.2.1 bt339.2.2.2.2.1 bt339.2.2.2.2.2.1 bt339.2.2.2.2.2.2.1) else (laws_FnExactOldFrom.j0 k l0 bt323.2.2.2.2.2.2.2 t336 bt339.2.2.2.2.2.2.2 true bt323.1 bt323.2.1 bt323.2.2.1 bt323.2.2.2.1 bt323.2.2.2.2.1 bt323.2.2.2.2.2.1 bt323.2.2.2.2.2.2.1 bt339.1 bt339.2.1 bt339.2.2.1 bt339.2.2.2.1 bt339.2.2.2.2.1 bt339.2.2.2.2.2.1 bt339.2.2.2.2.2.2.1)))))))
theorem laws_FnExactOldFrom.mono_l : ∀ k, (∀ y0 y1 y2 y3 y4 y5 y6 y7 y8 y9 y10 y11 y12 y13 y14 y15 y16 y17 y18, LeO (laws_FnExactOldFrom.j0 k y0 y1 y2 y3 y4 y5 y6 y7 y8 y9 y10 y11 y12 y13 y14 y15 y16 y17 y18) (laws_FnExactOldFrom.j0 (k + 1) y0 y1 y2 y3 y4 y5 y6 y7 y8 y9 y10 y11 y12 y13 y14 y15 y16 y17 y18)) ∧ (∀ y0 y1 y2 y3 y4 y5 y6 y7 y8 y9 y10 y11 y12 y13 y14 y15 y16, LeO (laws_FnExactOldFrom.j1 k y0 y1 y2 y3 y4 y5 y6 y7 y8 y9 y10 y11 y12 y13 y14 y15 y16) (laws_FnExactOldFrom.j1 (k + 1) y0 y1 y2 y3 y4 y5 y6 y7 y8 y9 y10 y11 y12 y13 y14 y15 y16)) ∧ (∀ y0 y1 y2 y3 y4 y5 y6 y7 y8, LeO (laws_FnExactOldFrom.j2 k y0 y1 y2 y3 y4 y5 y6 y7 y8) (laws_FnExactOldFrom.j2 (k + 1) y0 y1 y2 y3 y4 y5 y6 y7 y8))
  | 0 => ⟨fun _ _ _ _ _ _ _ _ _ _ _ _ _ _ _ _ _ _ _ r h => by simp [laws_FnExactOldFrom.j0] at h, fun _ _ _ _ _ _ _ _ _ _ _ _ _ _ _ _ _ r h => by simp [laws_FnExactOldFrom.j1] at h, fun _ _ _ _ _ _ _ _ _ r h => by simp [laws_FnExactOldFrom.j2] at h⟩
  | k + 1 => by
    obtain ⟨ih0, ih1, ih2⟩ := laws_FnExactOldFrom.mono_l k
    refine ⟨?_, ?_, ?_⟩
    · intro y0 y1 y2 y3 y4 y5 y6 y7 y8 y9 y10 y11 y12 y13 y14 y15 y16 y17 y18
      unfold laws_FnExactOldFrom.j0
      repeat' first
      | (with_reducible exact ih0 _ _ _ _ _ _ _ _ _ _ _ _ _ _ _ _ _ _ _)
      | (with_reducible exact ih1 _ _ _ _ _ _ _ _ _ _ _ _ _ _ _ _ _)
      | (with_reducible exact ih2 _ _ _ _ _ _ _ _ _)
      | (with_reducible exact impl_OldFrom.mono _ _)
      | (with_reducible exact laws_eqIntS.mono _ _ _)
      | (with_reducible exact laws_eqOld.mono _ _ _ _ _ _ _ _ _ _ _ _ _ _ _)
      | (with_reducible exact laws_heldOld.mono _ _ _ _ _ _ _ _ _)
      | (with_reducible exact laws_markIntS.mono _ _ _)
      | (with_reducible exact laws_markOld.mono _ _ _ _ _ _ _ _ _)
      | (with_reducible exact laws_toIntS.mono _ _)
      | (with_reducible exact spec_OldFrom.mono _ _)
      | (with_reducible exact LeO.refl _)
      | (with_reducible exact LeO.none _)
      | (with_reducible refine LeO.ite ?_ ?_)
      | (with_reducible refine LeO.bind ?_ (fun _ => ?_))
      | exact ih0 _ _ _ _ _ _ _ _ _ _ _ _ _ _ _ _ _ _ _
      | exact ih1 _ _ _ _ _ _ _ _ _ _ _ _ _ _ _ _ _
      | exact ih2 _ _ _ _ _ _ _ _ _
      | exact impl_OldFrom.mono _ _
      | exact laws_eqIntS.mono _ _ _
      | exact laws_eqOld.mono _ _ _ _ _ _ _ _ _ _ _ _ _ _ _
      | exact laws_heldOld.mono _ _ _ _ _ _ _ _ _
      | exact laws_markIntS.mono _ _ _
      | exact laws_markOld.mono _ _ _ _ _ _ _ _ _
      | exact laws_toIntS.mono _ _
      | exact spec_OldFrom.mono _ _
      | exact LeO.none _
      | refine LeO.ite ?_ ?_
      | refine LeO.bind ?_ (fun _ => ?_)
    · intro y0 y1 y2 y3 y4 y5 y6 y7 y8 y9 y10 y11 y12 y13 y14 y15 y16
      unfold laws_FnExactOldFrom.j1
      repeat' first
      | (with_reducible exact ih0 _ _ _ _ _ _ _ _ _ _ _ _ _ _ _ _ _ _ _)
      | (with_reducible exact ih1 _ _ _ _ _ _ _ _ _ _ _ _ _ _ _ _ _)
      | (with_reducible exact ih2 _ _ _ _ _ _ _ _ _)
      | (with_reducible exact impl_OldFrom.mono _ _)
      | (with_reducible exact laws_eqIntS.mono _ _ _)
      | (with_reducible exact laws_eqOld.mono _ _ _ _ _ _ _ _ _ _ _ _ _ _ _)
      | (with_reducible exact laws_heldOld.mono _ _ _ _ _ _ _ _ _)
      | (with_reducible exact laws_markIntS.mono _ _ _)
      | (with_reducible exact laws_markOld.mono _ _ _ _ _ _ _ _ _)
      | (with_reducible exact laws_toIntS.mono _ _)
      | (with_reducible exact spec_OldFrom.mono _ _)
      | (with_reducible exact LeO.refl _)
      | (with_reducible exact LeO.none _)
      | (with_reducible refine LeO.ite ?_ ?_)
      | (with_reducible refine LeO.bind ?_ (fun _ => ?_))
      | exact ih0 _ _ _ _ _ _ _ _ _ _ _ _ _ _ _ _ _ _ _
      | exact ih1 _ _ _ _ _ _ _ _ _ _ _ _ _ _ _ _ _
      | exact ih2 _ _ _ _ _ _ _ _ _
      | exact impl_OldFrom.mono _ _
      | exact laws_eqIntS.mono _ _ _
      | exact laws_eqOld.mono _ _ _ _ _ _ _ _ _ _ _ _ _ _ _
      | exact laws_heldOld.mono _ _ _ _ _ _ _ _ _
      | exact laws_markIntS.mono _ _ _
      | exact laws_markOld.mono _ _ _ _ _ _ _ _ _
      | exact laws_toIntS.mono _ _
      | exact spec_OldFrom.mono _ _
      | exact LeO.none _
      | refine LeO.ite ?_ ?_
      | refine LeO.bind ?_ (fun _ => ?_)
    · intro y0 y1 y2 y3 y4 y5 y6 y7 y8
      unfold laws_FnExactOldFrom.j2
      repeat' first
      | (with_reducible exact ih0 _ _ _ _ _ _ _ _ _ _ _ _ _ _ _ _ _ _ _)
      | (with_reducible exact ih1 _ _ _ _ _ _ _ _ _ _ _ _ _ _ _ _ _)
      | (with_reducible exact ih2 _ _ _ _ _ _ _ _ _)
      | (with_reducible exact impl_OldFrom.mono _ _)
      | (with_reducible exact laws_eqIntS.mono _ _ _)
      | (with_reducible exact laws_eqOld.mono _ _ _ _ _ _ _ _ _ _ _ _ _ _ _)
      | (with_reducible exact laws_heldOld.mono _ _ _ _ _ _ _ _ _)
      | (with_reducible exact laws_markIntS.mono _ _ _)
      | (with_reducible exact laws_markOld.mono _ _ _ _ _ _ _ _ _)
      | (with_reducible exact laws_toIntS.mono _ _)
      | (with_reducible exact spec_OldFrom.mono _ _)
      | (with_reducible exact LeO.refl _)
      | (with_reducible exact LeO.none _)
      | (with_reducible refine LeO.ite ?_ ?_)
      | (with_reducible refine LeO.bind ?_ (fun _ => ?_))
      | exact ih0 _ _ _ _ _ _ _ _ _ _ _ _ _ _ _ _ _ _ _
      | exact ih1 _ _ _ _ _ _ _ _ _ _ _ _ _ _ _ _ _
      | exact ih2 _ _ _ _ _ _ _ _ _
      | exact impl_OldFrom.mono _ _
      | exact laws_eqIntS.mono _ _ _
      | exact laws_eqOld.mono _ _ _ _ _ _ _ _ _ _ _ _ _ _ _
      | exact laws_heldOld.mono _ _ _ _ _ _ _ _ _
      | exact laws_markIntS.mono _ _ _
      | exact laws_markOld.mono _ _ _ _ _ _ _ _ _
      | exact laws_toIntS.mono _ _
      | exact spec_OldFrom.mono _ _
      | exact LeO.none _
      | refine LeO.ite ?_ ?_
      | refine LeO.bind ?_ (fun _ => ?_)
theorem laws_FnExactOldFrom.mono : ∀ a0 k, LeO (laws_FnExactOldFrom.f k a0) (laws_FnExactOldFrom.f (k + 1) a0) := by
  intro a0 k
  obtain ⟨ih0, ih1, ih2⟩ := laws_FnExactOldFrom.mono_l k
  unfold laws_FnExactOldFrom.f
  repeat' first
      | (with_reducible exact ih0 _ _ _ _ _ _ _ _ _ _ _ _ _ _ _ _ _ _ _)
      | (with_reducible exact ih1 _ _ _ _ _ _ _ _ _ _ _ _ _ _ _ _ _)
      | (with_reducible exact ih2 _ _ _ _ _ _ _ _ _)
      | (with_reducible exact impl_OldFrom.mono _ _)
      | (with_reducible exact laws_eqIntS.mono _ _ _)
      | (with_reducible exact laws_eqOld.mono _ _ _ _ _ _ _ _ _ _ _ _ _ _ _)
      | (with_reducible exact laws_heldOld.mono _ _ _ _ _ _ _ _ _)
      | (with_reducible exact laws_markIntS.mono _ _ _)
      | (with_reducible exact laws_markOld.mono _ _ _ _ _ _ _ _ _)
      | (with_reducible exact laws_toIntS.mono _ _)
      | (with_reducible exact spec_OldFrom.mono _ _)
      | (with_reducible exact LeO.refl _)
      | (with_reducible exact LeO.none _)
      | (with_reducible refine LeO.ite ?_ ?_)
      | (with_reducible refine LeO.bind ?_ (fun _ => ?_))
      | exact ih0 _ _ _ _ _ _ _ _ _ _ _ _ _ _ _ _ _ _ _
      | exact ih1 _ _ _ _ _ _ _ _ _ _ _ _ _ _ _ _ _
      | exact ih2 _ _ _ _ _ _ _ _ _
      | exact impl_OldFrom.mono _ _
      | exact laws_eqIntS.mono _ _ _
      | exact laws_eqOld.mono _ _ _ _ _ _ _ _ _ _ _ _ _ _ _
      | exact laws_heldOld.mono _ _ _ _ _ _ _ _ _
      | exact laws_markIntS.mono _ _ _
      | exact laws_markOld.mono _ _ _ _ _ _ _ _ _
      | exact laws_toIntS.mono _ _
      | exact spec_OldFrom.mono _ _
      | exact LeO.none _
      | refine LeO.ite ?_ ?_
      | refine LeO.bind ?_ (fun _ => ?_)
set_option maxHeartbeats 8000000 in
set_option maxRecDepth 100000 in
theorem laws_FnExactOldFrom.calls (k : Nat) (A0 : Option Addr) (c0 : Nat) (l0 : List Int) (r : Bool) (w : World) (hr0 : Kd.C (Kd.int .i64) w A0 l0.length l0) (hc0 : l0.length ≤ c0) (h : laws_FnExactOldFrom.f k l0 = some r) :
    Calls Try.prog 14 #[.slice A0 l0.length c0] w fun e w' => e = .returned (.bool r) ∧ Below w.heap.size w w' := by
  have hu26 := Try.underlying26
  have HR0 := Aside0.mk hr0
  have HC0 := Aside0.mk hc0
  clear hr0 hc0
  have HB := Aside0.mk (Below.refl w.heap.size w)
  have H : (if (l0.length : Int) > 1048576 then (some true) else ((laws_toIntS.f k l0).bind fun t320 => ((spec_OldFrom.f k t320).bind fun bt323 => ((laws_toIntS.f k l0).bind fun t336 => ((impl_OldFrom.f k t336).bind fun bt339 => ((laws_eqOld.f k bt339.1 bt339.2.1 bt339.2.2.1 bt339.2.2.2.1 bt339.2.2.2.2.1 bt339.2.2.2.2.2.1 bt339.2.2.2.2.2.2.1 bt323.1 bt323.2.1 bt323.2.2.1 bt323.2.2.2.1 bt323.2.2.2.2.1 bt323.2.2.2.2.2.1 bt323.2.2.2.2.2.2.1).bind fun t352 => (if t352 = true then (laws_FnExactOldFrom.j0 k l0 bt323.2.2.2.2.2.2.2 t336 bt339.2.2.2.2.2.2.2 (bt339.2.2.2.2.2.2.2 != bt323.2.2.2.2.2.2.2) bt323.1 bt323.2.1 bt323.2.2.1 bt323.2.2.2.1 bt323.2.2.2.2.1 bt323.2.2.2.2.2.1 bt323.2.2.2.2.2.2.1 bt339.1 bt339.2.1 bt339.2.2.1 bt339.2.2.2.1 bt339.2.2.2.2.1 bt339.2.2.2.2.2.1 bt339.2.2.2.2.2.2.1) else (laws_FnExactOldFrom.j0 k l0 bt323.2.2.2.2.2.2.2 t336 bt339.2.2.2.2.2.2.2 true bt323.1 bt323.2.1 bt323.2.2.1 bt323.2.2.2.1 bt323.2.2.2.2.1 bt323.2.2.2.2.2.1 bt323.2.2.2.2.2.2.1 bt339.1 bt339.2.1 bt339.2.2.1 bt339.2.2.2.1 bt339.2.2.2.2.1 bt339.2.2.2.2.2.1 bt339.2.2.2.2.2.2.1)))))))) = some r := h
  clear h
  by_cases c2 : (l0.length : Int) > 1048576
  · rw [if_pos c2] at H
    have c2b0 : decide (1048576 < (l0.length : Int)) = true := decide_eq_true c2
    have c2b1 : decide (1048576 < l0.length) = true := decide_eq_true (by omega)
    clear c2
    obtain rfl := Option.some.inj H
    go_enter Try.func14, Try.ntmps14
    go_wp2
    go_ret
    exact ⟨by first | rfl | (simp [errW_none, errW_some] <;> rfl) | (simp [*, errW_none, errW_some] <;> rfl), by repeat (first | (with_reducible first | exact HB.out | apply below_alloc | apply pw_below_drewN | apply below_drew1) | exact HB.out)⟩
  · rw [if_neg c2] at H
    have c2b0 : decide (1048576 < (l0.length : Int)) = false := decide_eq_false c2
    have c2b1 : decide (1048576 < l0.length) = false := decide_eq_false (by omega)
    clear c2
    replace H := Option.bind_eq_some_iff.mp H
    obtain ⟨t320, A30, H⟩ := H
    replace H : ((spec_OldFrom.f k t320).bind fun bt323 => ((laws_toIntS.f k l0).bind fun t336 => ((impl_OldFrom.f k t336).bind fun bt339 => ((laws_eqOld.f k bt339.1 bt339.2.1 bt339.2.2.1 bt339.2.2.2.1 bt339.2.2.2.2.1 bt339.2.2.2.2.2.1 bt339.2.2.2.2.2.2.1 bt323.1 bt323.2.1 bt323.2.2.1 bt323.2.2.2.1 bt323.2.2.2.2.1 bt323.2.2.2.2.2.1 bt323.2.2.2.2.2.2.1).bind fun t352 => (if t352 = true then (laws_FnExactOldFrom.j0 k l0 bt323.2.2.2.2.2.2.2 t336 bt339.2.2.2.2.2.2.2 (bt339.2.2.2.2.2.2.2 != bt323.2.2.2.2.2.2.2) bt323.1 bt323.2.1 bt323.2.2.1 bt323.2.2.2.1 bt323.2.2.2.2.1 bt323.2.2.2.2.2.1 bt323.2.2.2.2.2.2.1 bt339.1 bt339.2.1 bt339.2.2.1 bt339.2.2.2.1 bt339.2.2.2.2.1 bt339.2.2.2.2.2.1 bt339.2.2.2.2.2.2.1) else (laws_FnExactOldFrom.j0 k l0 bt323.2.2.2.2.2.2.2 t336 bt339.2.2.2.2.2.2.2 true bt323.1 bt323.2.1 bt323.2.2.1 bt323.2.2.2.1 bt323.2.2.2.2.1 bt323.2.2.2.2.2.1 bt323.2.2.2.2.2.2.1 bt339.1 bt339.2.1 bt339.2.2.1 bt339.2.2.2.1 bt339.2.2.2.2.1 bt339.2.2.2.2.2.1 bt339.2.2.2.2.2.2.1)))))) = some r := H
    have A3 := Aside0.mk A30
    clear A30
    replace H := Option.bind_eq_some_iff.mp H
    obtain ⟨⟨t323, t324, t325, t326, t329, t332, t333, t334⟩, A40, H⟩ := H
    replace H : ((laws_toIntS.f k l0).bind fun t336 => ((impl_OldFrom.f k t336).bind fun bt339 => ((laws_eqOld.f k bt339.1 bt339.2.1 bt339.2.2.1 bt339.2.2.2.1 bt339.2.2.2.2.1 bt339.2.2.2.2.2.1 bt339.2.2.2.2.2.2.1 t323 t324 t325 t326 t329 t332 t333).bind fun t352 => (if t352 = true then (laws_FnExactOldFrom.j0 k l0 t334 t336 bt339.2.2.2.2.2.2.2 (bt339.2.2.2.2.2.2.2 != t334) t323 t324 t325 t326 t329 t332 t333 bt339.1 bt339.2.1 bt339.2.2.1 bt339.2.2.2.1 bt339.2.2.2.2.1 bt339.2.2.2.2.2.1 bt339.2.2.2.2.2.2.1) else (laws_FnExactOldFrom.j0 k l0 t334 t336 bt339.2.2.2.2.2.2.2 true t323 t324 t325 t326 t329 t332 t333 bt339.1 bt339.2.1 bt339.2.2.1 bt339.2.2.2.1 bt339.2.2.2.2.1 bt339.2.2.2.2.2.1 bt339.2.2.2.2.2.2.1))))) = some r := H
    have A4 := Aside0.mk A40
    clear A40
    replace H := Option.bind_eq_some_iff.mp H
    obtain ⟨t336, A50, H⟩ := H
    replace H : ((impl_OldFrom.f k t336).bind fun bt339 => ((laws_eqOld.f k bt339.1 bt339.2.1 bt339.2.2.1 bt339.2.2.2.1 bt339.2.2.2.2.1 bt339.2.2.2.2.2.1 bt339.2.2.2.2.2.2.1 t323 t324 t325 t326 t329 t332 t333).bind fun t352 => (if t352 = true then (laws_FnExactOldFrom.j0 k l0 t334 t336 bt339.2.2.2.2.2.2.2 (bt339.2.2.2.2.2.2.2 != t334) t323 t324 t325 t326 t329 t332 t333 bt339.1 bt339.2.1 bt339.2.2.1 bt339.2.2.2.1 bt339.2.2.2.2.1 bt339.2.2.2.2.2.1 bt339.2.2.2.2.2.2.1) else (laws_FnExactOldFrom.j0 k l0 t334 t336 bt339.2.2.2.2.2.2.2 true t323 t324 t325 t326 t329 t332 t333 bt339.1 bt339.2.1 bt339.2.2.1 bt339.2.2.2.1 bt339.2.2.2.2.1 bt339.2.2.2.2.2.1 bt339.2.2.2.2.2.2.1)))) = some r := H
    have A5 := Aside0.mk A50
    clear A50
    replace H := Option.bind_eq_some_iff.mp H
    obtain ⟨⟨t339, t340, t341, t342, t345, t348, t349, t350⟩, A60, H⟩ := H
    replace H : ((laws_eqOld.f k t339 t340 t341 t342 t345 t348 t349 t323 t324 t325 t326 t329 t332 t333).bind fun t352 => (if t352 = true then (laws_FnExactOldFrom.j0 k l0 t334 t336 t350 (t350 != t334) t323 t324 t325 t326 t329 t332 t333 t339 t340 t341 t342 t345 t348 t349) else (laws_FnExactOldFrom.j0 k l0 t334 t336 t350 true t323 t324 t325 t326 t329 t332 t333 t339 t340 t341 t342 t345 t348 t349))) = some r := H
    have A6 := Aside0.mk A60
    clear A60
    have HC7 := Aside0.mk H
    clear H
    go_enter Try.func14, Try.ntmps14
    go_upto_region 6 with (first | ((with_reducible refine gate_callee (f := 45) rfl ?_); refine goesL_ (some 18) rfl rfl Try.func45 (by kernel_rfl) rfl #[.slice A0 l0.length c0] rfl (by (try simp only [List.map_toArray, List.map_cons, List.map_nil]); first | done | rfl | (simp only [List.length_drop, List.length_take]; rfl)) ?_; (with_reducible refine (laws_toIntS.calls k _ _ l0 t320 _ ?side1 ?side2 A3.out).mono ?_); (case side1 => repeat (first | exact HR0.out | (with_reducible refine Kd.C_alloc ?_ _) | (with_reducible refine Kd.C_drewN ?_ _) | (with_reducible refine Kd.C_drew ?_))); (case side2 => exact HC0.out); rintro e w8 ⟨v321, rfl, ho0, hb⟩; refine ⟨_, rfl, ?_⟩; have n0_ := Aside0.mk (Kd.R_lower ho0 (below_size (by repeat (first | (with_reducible first | exact HB.out | apply below_alloc | apply pw_below_drewN | apply below_drew1) | exact HB.out)))); have n1_ := Aside0.mk (below_step (by repeat (first | (with_reducible first | exact HB.out | apply below_alloc | apply pw_below_drewN | apply below_drew1) | exact HB.out)) hb); clear HB; have HO322 := n0_; have HB := n1_; clear n0_ n1_; (try clear hb); (try clear hb2); (try clear hk); (try clear hi); (try clear ho0); obtain ⟨Ao9, co9, eo9⟩ := Kd.R_slice HO322.out; subst eo9) | ((with_reducible refine gate_callee (f := 17) rfl ?_); refine goesL_ (some 19) rfl rfl Try.func17 (by kernel_rfl) rfl #[.slice Ao9 t320.length co9] rfl (by (try simp only [List.map_toArray, List.map_cons, List.map_nil]); first | done | rfl | (simp only [List.length_drop, List.length_take]; rfl)) ?_; (with_reducible refine (spec_OldFrom.calls k _ _ t320 t323 t324 t325 t326 t329 t332 t333 t334 _ ?side1 ?side2 A4.out).mono ?_); (case side1 => repeat (first | exact (Kd.R_reads' HO322.out).2.2 | (with_reducible refine Kd.C_alloc ?_ _) | (with_reducible refine Kd.C_drewN ?_ _) | (with_reducible refine Kd.C_drew ?_))); (case side2 => exact (Kd.R_reads' HO322.out).2.1); rintro e w10 ⟨v327, v330, rfl, ho0, ho1, hb⟩; refine ⟨_, rfl, ?_⟩; have n0_ := Aside0.mk (Kd.R_mono (Kd.R_told (Kd.R_told (Kd.R_old (by (with_reducible repeat (first | apply Kd.R_alloc | apply Kd.R_drewN | apply Kd.R_drew)); exact HO322.out) hb) (Kd.R_base ho0)) (Kd.R_base ho1)) (fun _ h_ => h_.1)); have n1_ := Aside0.mk (Kd.R_lower (Kd.R_new' ho0 (Kd.R_lt (by (with_reducible repeat (first | apply Kd.R_alloc | apply Kd.R_drewN | apply Kd.R_drew)); exact HO322.out))) (below_size (by repeat (first | (with_reducible first | exact HB.out | apply below_alloc | apply pw_below_drewN | apply below_drew1) | exact HB.out)))); have n2_ := Aside0.mk (Kd.R_lower (Kd.R_new' ho1 (Kd.R_lt (by (with_reducible repeat (first | apply Kd.R_alloc | apply Kd.R_drewN | apply Kd.R_drew)); exact HO322.out))) (below_size (by repeat (first | (with_reducible first | exact HB.out | apply below_alloc | apply pw_below_drewN | apply below_drew1) | exact HB.out)))); have n3_ := Aside0.mk (below_step (by repeat (first | (with_reducible first | exact HB.out | apply below_alloc | apply pw_below_drewN | apply below_drew1) | exact HB.out)) hb); clear HO322; clear HB; have HO322 := n0_; have HO328 := n1_; have HO331 := n2_; have HB := n3_; clear n0_ n1_ n2_ n3_; (try clear hb); (try clear hb2); (try clear hk); (try clear hi); (try clear ho0); (try clear ho1)) | ((with_reducible refine gate_dst (N := 3) rfl ?_); refine box_event ?hg (N := 3) ?hd (cs := #[.int .i64 0, .bool false, .int .i64 0, .slice none 0 0, .slice none 0 0, .bool false, .bool false]) (t := 26) ?hr ?_; (case hd => rfl); (case hg => rfl); (case hr => first | (go_simp; done) | (go_simp; rfl)); intro gb335 hg w11 hbox hb; have n0_ := Aside0.mk (Kd.R_below (by (with_reducible repeat (first | apply Kd.R_alloc | apply Kd.R_drewN | apply Kd.R_drew)); exact HO322.out) hb); have n1_ := Aside0.mk (Kd.R_below (by (with_reducible repeat (first | apply Kd.R_alloc | apply Kd.R_drewN | apply Kd.R_drew)); exact HO328.out) hb); have n2_ := Aside0.mk (Kd.R_below (by (with_reducible repeat (first | apply Kd.R_alloc | apply Kd.R_drewN | apply Kd.R_drew)); exact HO331.out) hb); have n3_ := Aside0.mk (below_step (by repeat (first | (with_reducible first | exact HB.out | apply below_alloc | apply pw_below_drewN | apply below_drew1) | exact HB.out)) hb); have n4_ := Aside0.mk (hbox); have n5_ := Aside0.mk ((by rw [hg]; exact (below_size (by repeat (first | (with_reducible first | exact HB.out | apply below_alloc | apply pw_below_drewN | apply below_drew1) | exact HB.out))) : w.heap.size ≤ gb335)); have n6_ := Aside0.mk ((by rw [hg]; exact (below_size (by repeat (first | (with_reducible first | exact HB.out | apply below_alloc | apply pw_below_drewN | apply below_drew1) | exact HB.out))) : w.heap.size ≤ gb335)); clear HO322; clear HO328; clear HO331; clear HB; have HO322 := n0_; have HO328 := n1_; have HO331 := n2_; have HB := n3_; have BK335 := n4_; have GW335 := n5_; have GE335 := n6_; clear n0_ n1_ n2_ n3_ n4_ n5_ n6_; clear hb hbox hg; have hcz12_0 : w11.cell? ⟨gb335, 0, none⟩ = some (.int .i64 0) := (blk_cell BK335.out 0).trans rfl; have hcz12_1 : w11.cell? ⟨gb335, 1, none⟩ = some (.bool false) := (blk_cell BK335.out 1).trans rfl; have hcz12_2 : w11.cell? ⟨gb335, 2, none⟩ = some (.int .i64 0) := (blk_cell BK335.out 2).trans rfl; have hcz12_3 : w11.cell? ⟨gb335, 3, none⟩ = some (.slice none 0 0) := (blk_cell BK335.out 3).trans rfl; have hcz12_4 : w11.cell? ⟨gb335, 4, none⟩ = some (.slice none 0 0) := (blk_cell BK335.out 4).trans rfl; have hcz12_5 : w11.cell? ⟨gb335, 5, none⟩ = some (.bool false) := (blk_cell BK335.out 5).trans rfl; have hcz12_6 : w11.cell? ⟨gb335, 6, none⟩ = some (.bool false) := (blk_cell BK335.out 6).trans rfl; have hfz12_0 := blk_frozen BK335.out 0; have hfz12_1 := blk_frozen BK335.out 1; have hfz12_2 := blk_frozen BK335.out 2; have hfz12_3 := blk_frozen BK335.out 3; have hfz12_4 := blk_frozen BK335.out 4; have hfz12_5 := blk_frozen BK335.out 5; have hfz12_6 := blk_frozen BK335.out 6; obtain ⟨Ao13, co13, eo13⟩ := Kd.R_slice HO328.out; subst eo13; obtain ⟨Ao14, co14, eo14⟩ := Kd.R_slice HO331.out; subst eo14) | ((with_reducible refine gate_callee (f := 45) rfl ?_); refine goesL_ (some 23) rfl rfl Try.func45 (by kernel_rfl) rfl #[.slice A0 l0.length c0] rfl (by (try simp only [List.map_toArray, List.map_cons, List.map_nil]); first | done | rfl | (simp only [List.length_drop, List.length_take]; rfl)) ?_; (with_reducible refine (laws_toIntS.calls k _ _ l0 t336 _ ?side1 ?side2 A5.out).mono ?_); (case side1 => exact Kd.C_below HR0.out (by repeat (first | (with_reducible first | exact HB.out | apply below_alloc | apply pw_below_drewN | apply below_drew1 | refine below_set ?_ GE335.out) | exact HB.out))); (case side2 => exact HC0.out); rintro e w15 ⟨v337, rfl, ho0, hb⟩; refine ⟨_, rfl, ?_⟩; have n0_ := Aside0.mk (Kd.R_elder' (by (with_reducible repeat (first | apply Kd.R_alloc | apply Kd.R_drewN | apply Kd.R_drew)); exact (Kd.R_mono (Kd.R_far (p := ⟨gb335, 6, none⟩) (Kd.R_far (p := ⟨gb335, 5, none⟩) (Kd.R_far (p := ⟨gb335, 4, none⟩) (Kd.R_far (p := ⟨gb335, 3, none⟩) (Kd.R_far (p := ⟨gb335, 2, none⟩) (Kd.R_far (p := ⟨gb335, 1, none⟩) (Kd.R_far (p := ⟨gb335, 0, none⟩) (Kd.R_types HO322.out BK335.out (by decide)) (fun _ hk => hk.2) (.int .i64 t323)) (fun _ hk => hk.2) (.bool t324)) (fun _ hk => hk.2) (.int .i64 t325)) (fun _ hk => hk.2) (.slice Ao13 t326.length co13)) (fun _ hk => hk.2) (.slice Ao14 t329.length co14)) (fun _ hk => hk.2) (.bool t332)) (fun _ hk => hk.2) (.bool t333)) (fun _ h_ => h_.1))) (Kd.R_base ho0) hb); have n1_ := Aside0.mk (Kd.R_elder' (by (with_reducible repeat (first | apply Kd.R_alloc | apply Kd.R_drewN | apply Kd.R_drew)); exact (Kd.R_mono (Kd.R_far (p := ⟨gb335, 6, none⟩) (Kd.R_far (p := ⟨gb335, 5, none⟩) (Kd.R_far (p := ⟨gb335, 4, none⟩) (Kd.R_far (p := ⟨gb335, 3, none⟩) (Kd.R_far (p := ⟨gb335, 2, none⟩) (Kd.R_far (p := ⟨gb335, 1, none⟩) (Kd.R_far (p := ⟨gb335, 0, none⟩) (Kd.R_types HO328.out BK335.out (by decide)) (fun _ hk => hk.2) (.int .i64 t323)) (fun _ hk => hk.2) (.bool t324)) (fun _ hk => hk.2) (.int .i64 t325)) (fun _ hk => hk.2) (.slice Ao13 t326.length co13)) (fun _ hk => hk.2) (.slice Ao14 t329.length co14)) (fun _ hk => hk.2) (.bool t332)) (fun _ hk => hk.2) (.bool t333)) (fun _ h_ => h_.1))) (Kd.R_base ho0) hb); have n2_ := Aside0.mk (Kd.R_elder' (by (with_reducible repeat (first | apply Kd.R_alloc | apply Kd.R_drewN | apply Kd.R_drew)); exact (Kd.R_mono (Kd.R_far (p := ⟨gb335, 6, none⟩) (Kd.R_far (p := ⟨gb335, 5, none⟩) (Kd.R_far (p := ⟨gb335, 4, none⟩) (Kd.R_far (p := ⟨gb335, 3, none⟩) (Kd.R_far (p := ⟨gb335, 2, none⟩) (Kd.R_far (p := ⟨gb335, 1, none⟩) (Kd.R_far (p := ⟨gb335, 0, none⟩) (Kd.R_types HO331.out BK335.out (by decide)) (fun _ hk => hk.2) (.int .i64 t323)) (fun _ hk => hk.2) (.bool t324)) (fun _ hk => hk.2) (.int .i64 t325)) (fun _ hk => hk.2) (.slice Ao13 t326.length co13)) (fun _ hk => hk.2) (.slice Ao14 t329.length co14)) (fun _ hk => hk.2) (.bool t332)) (fun _ hk => hk.2) (.bool t333)) (fun _ h_ => h_.1))) (Kd.R_base ho0) hb); have n3_ := Aside0.mk (Kd.R_lower (Kd.R_new' (Kd.R_new' (Kd.R_new' ho0 (Kd.R_lt (by (with_reducible repeat (first | apply Kd.R_alloc | apply Kd.R_drewN | apply Kd.R_drew)); exact (Kd.R_mono (Kd.R_far (p := ⟨gb335, 6, none⟩) (Kd.R_far (p := ⟨gb335, 5, none⟩) (Kd.R_far (p := ⟨gb335, 4, none⟩) (Kd.R_far (p := ⟨gb335, 3, none⟩) (Kd.R_far (p := ⟨gb335, 2, none⟩) (Kd.R_far (p := ⟨gb335, 1, none⟩) (Kd.R_far (p := ⟨gb335, 0, none⟩) (Kd.R_types HO322.out BK335.out (by decide)) (fun _ hk => hk.2) (.int .i64 t323)) (fun _ hk => hk.2) (.bool t324)) (fun _ hk => hk.2) (.int .i64 t325)) (fun _ hk => hk.2) (.slice Ao13 t326.length co13)) (fun _ hk => hk.2) (.slice Ao14 t329.length co14)) (fun _ hk => hk.2) (.bool t332)) (fun _ hk => hk.2) (.bool t333)) (fun _ h_ => h_.1))))) (Kd.R_lt (by (with_reducible repeat (first | apply Kd.R_alloc | apply Kd.R_drewN | apply Kd.R_drew)); exact (Kd.R_mono (Kd.R_far (p := ⟨gb335, 6, none⟩) (Kd.R_far (p := ⟨gb335, 5, none⟩) (Kd.R_far (p := ⟨gb335, 4, none⟩) (Kd.R_far (p := ⟨gb335, 3, none⟩) (Kd.R_far (p := ⟨gb335, 2, none⟩) (Kd.R_far (p := ⟨gb335, 1, none⟩) (Kd.R_far (p := ⟨gb335, 0, none⟩) (Kd.R_types HO328.out BK335.out (by decide)) (fun _ hk => hk.2) (.int .i64 t323)) (fun _ hk => hk.2) (.bool t324)) (fun _ hk => hk.2) (.int .i64 t325)) (fun _ hk => hk.2) (.slice Ao13 t326.length co13)) (fun _ hk => hk.2) (.slice Ao14 t329.length co14)) (fun _ hk => hk.2) (.bool t332)) (fun _ hk => hk.2) (.bool t333)) (fun _ h_ => h_.1))))) (Kd.R_lt (by (with_reducible repeat (first | apply Kd.R_alloc | apply Kd.R_drewN | apply Kd.R_drew)); exact (Kd.R_mono (Kd.R_far (p := ⟨gb335, 6, none⟩) (Kd.R_far (p := ⟨gb335, 5, none⟩) (Kd.R_far (p := ⟨gb335, 4, none⟩) (Kd.R_far (p := ⟨gb335, 3, none⟩) (Kd.R_far (p := ⟨gb335, 2, none⟩) (Kd.R_far (p := ⟨gb335, 1, none⟩) (Kd.R_far (p := ⟨gb335, 0, none⟩) (Kd.R_types HO331.out BK335.out (by decide)) (fun _ hk => hk.2) (.int .i64 t323)) (fun _ hk => hk.2) (.bool t324)) (fun _ hk => hk.2) (.int .i64 t325)) (fun _ hk => hk.2) (.slice Ao13 t326.length co13)) (fun _ hk => hk.2) (.slice Ao14 t329.length co14)) (fun _ hk => hk.2) (.bool t332)) (fun _ hk => hk.2) (.bool t333)) (fun _ h_ => h_.1))))) (below_size (by repeat (first | (with_reducible first | exact HB.out | apply below_alloc | apply pw_below_drewN | apply below_drew1 | refine below_set ?_ GE335.out) | exact HB.out)))); have n4_ := Aside0.mk (blk_below (g := gb335) (o := .cells #[.int .i64 t323, .bool t324, .int .i64 t325, .slice Ao13 t326.length co13, .slice Ao14 t329.length co14, .bool t332, .bool t333] 26 (0, 0)) (by (with_reducible repeat (first | refine blk_drewN ?_ _ | refine blk_drew ?_ | refine blk_alloc ?_ _)); refine blk_put (cs := #[.int .i64 t323, .bool t324, .int .i64 t325, .slice Ao13 t326.length co13, .slice Ao14 t329.length co14, .bool t332, .bool false]) ?_ 6 _ rfl; (with_reducible repeat (first | refine blk_drewN ?_ _ | refine blk_drew ?_ | refine blk_alloc ?_ _)); refine blk_put (cs := #[.int .i64 t323, .bool t324, .int .i64 t325, .slice Ao13 t326.length co13, .slice Ao14 t329.length co14, .bool false, .bool false]) ?_ 5 _ rfl; (with_reducible repeat (first | refine blk_drewN ?_ _ | refine blk_drew ?_ | refine blk_alloc ?_ _)); refine blk_put (cs := #[.int .i64 t323, .bool t324, .int .i64 t325, .slice Ao13 t326.length co13, .slice none 0 0, .bool false, .bool false]) ?_ 4 _ rfl; (with_reducible repeat (first | refine blk_drewN ?_ _ | refine blk_drew ?_ | refine blk_alloc ?_ _)); refine blk_put (cs := #[.int .i64 t323, .bool t324, .int .i64 t325, .slice none 0 0, .slice none 0 0, .bool false, .bool false]) ?_ 3 _ rfl; (with_reducible repeat (first | refine blk_drewN ?_ _ | refine blk_drew ?_ | refine blk_alloc ?_ _)); refine blk_put (cs := #[.int .i64 t323, .bool t324, .int .i64 0, .slice none 0 0, .slice none 0 0, .bool false, .bool false]) ?_ 2 _ rfl; (with_reducible repeat (first | refine blk_drewN ?_ _ | refine blk_drew ?_ | refine blk_alloc ?_ _)); refine blk_put (cs := #[.int .i64 t323, .bool false, .int .i64 0, .slice none 0 0, .slice none 0 0, .bool false, .bool false]) ?_ 1 _ rfl; (with_reducible repeat (first | refine blk_drewN ?_ _ | refine blk_drew ?_ | refine blk_alloc ?_ _)); refine blk_put (cs := #[.int .i64 0, .bool false, .int .i64 0, .slice none 0 0, .slice none 0 0, .bool false, .bool false]) ?_ 0 _ rfl; (with_reducible repeat (first | refine blk_drewN ?_ _ | refine blk_drew ?_ | refine blk_alloc ?_ _)); exact BK335.out) hb); have n5_ := Aside0.mk (below_step (by repeat (first | (with_reducible first | exact HB.out | apply below_alloc | apply pw_below_drewN | apply below_drew1 | refine below_set ?_ GE335.out) | exact HB.out)) hb); clear HO322; clear HO328; clear HO331; clear BK335; clear HB; have HO322 := n0_; have HO328 := n1_; have HO331 := n2_; have HO338 := n3_; have BK335 := n4_; have HB := n5_; clear n0_ n1_ n2_ n3_ n4_ n5_; (try clear hb); (try clear hb2); (try clear hk); (try clear hi); (try clear ho0); obtain ⟨Ao16, co16, eo16⟩ := Kd.R_slice HO338.out; subst eo16) | ((with_reducible refine gate_callee (f := 16) rfl ?_); refine goesL_ (some 26) rfl rfl Try.func16 (by kernel_rfl) rfl #[.slice Ao16 t336.length co16] rfl (by (try simp only [List.map_toArray, List.map_cons, List.map_nil]); first | done | rfl | (simp only [List.length_drop, List.length_take]; rfl)) ?_; (with_reducible refine (impl_OldFrom.calls k _ _ t336 t339 t340 t341 t342 t345 t348 t349 t350 _ ?side1 ?side2 A6.out).mono ?_); (case side1 => repeat (first | exact (Kd.R_reads' HO338.out).2.2 | (with_reducible refine Kd.C_alloc ?_ _) | (with_reducible refine Kd.C_drewN ?_ _) | (with_reducible refine Kd.C_drew ?_))); (case side2 => exact (Kd.R_reads' HO338.out).2.1); rintro e w17 ⟨v343, v346, rfl, ho0, ho1, hb⟩; refine ⟨_, rfl, ?_⟩; have n0_ := Aside0.mk (Kd.R_mono (Kd.R_told (Kd.R_told (Kd.R_old (by (with_reducible repeat (first | apply Kd.R_alloc | apply Kd.R_drewN | apply Kd.R_drew)); exact HO322.out) hb) (Kd.R_base ho0)) (Kd.R_base ho1)) (fun _ h_ => h_.1)); have n1_ := Aside0.mk (Kd.R_mono (Kd.R_told (Kd.R_told (Kd.R_old (by (with_reducible repeat (first | apply Kd.R_alloc | apply Kd.R_drewN | apply Kd.R_drew)); exact HO328.out) hb) (Kd.R_base ho0)) (Kd.R_base ho1)) (fun _ h_ => h_.1)); have n2_ := Aside0.mk (Kd.R_mono (Kd.R_told (Kd.R_told (Kd.R_old (by (with_reducible repeat (first | apply Kd.R_alloc | apply Kd.R_drewN | apply Kd.R_drew)); exact HO331.out) hb) (Kd.R_base ho0)) (Kd.R_base ho1)) (fun _ h_ => h_.1)); have n3_ := Aside0.mk (Kd.R_mono (Kd.R_told (Kd.R_told (Kd.R_old (by (with_reducible repeat (first | apply Kd.R_alloc | apply Kd.R_drewN | apply Kd.R_drew)); exact HO338.out) hb) (Kd.R_base ho0)) (Kd.R_base ho1)) (fun _ h_ => h_.1)); have n4_ := Aside0.mk (Kd.R_lower (Kd.R_new' (Kd.R_new' (Kd.R_new' (Kd.R_new' ho0 (Kd.R_lt (by (with_reducible repeat (first | apply Kd.R_alloc | apply Kd.R_drewN | apply Kd.R_drew)); exact HO322.out))) (Kd.R_lt (by (with_reducible repeat (first | apply Kd.R_alloc | apply Kd.R_drewN | apply Kd.R_drew)); exact HO328.out))) (Kd.R_lt (by (with_reducible repeat (first | apply Kd.R_alloc | apply Kd.R_drewN | apply Kd.R_drew)); exact HO331.out))) (Kd.R_lt (by (with_reducible repeat (first | apply Kd.R_alloc | apply Kd.R_drewN | apply Kd.R_drew)); exact HO338.out))) (below_size (by repeat (first | (with_reducible first | exact HB.out | apply below_alloc | apply pw_below_drewN | apply below_drew1 | refine below_set ?_ GE335.out) | exact HB.out)))); have n5_ := Aside0.mk (Kd.R_lower (Kd.R_new' (Kd.R_new' (Kd.R_new' (Kd.R_new' ho1 (Kd.R_lt (by (with_reducible repeat (first | apply Kd.R_alloc | apply Kd.R_drewN | apply Kd.R_drew)); exact HO322.out))) (Kd.R_lt (by (with_reducible repeat (first | apply Kd.R_alloc | apply Kd.R_drewN | apply Kd.R_drew)); exact HO328.out))) (Kd.R_lt (by (with_reducible repeat (first | apply Kd.R_alloc | apply Kd.R_drewN | apply Kd.R_drew)); exact HO331.out))) (Kd.R_lt (by (with_reducible repeat (first | apply Kd.R_alloc | apply Kd.R_drewN | apply Kd.R_drew)); exact HO338.out))) (below_size (by repeat (first | (with_reducible first | exact HB.out | apply below_alloc | apply pw_below_drewN | apply below_drew1 | refine below_set ?_ GE335.out) | exact HB.out)))); have n6_ := Aside0.mk (blk_below (g := gb335) (o := .cells #[.int .i64 t323, .bool t324, .int .i64 t325, .slice Ao13 t326.length co13, .slice Ao14 t329.length co14, .bool t332, .bool t333] 26 (0, 0)) (by (with_reducible repeat (first | refine blk_drewN ?_ _ | refine blk_drew ?_ | refine blk_alloc ?_ _)); exact BK335.out) hb); have n7_ := Aside0.mk (below_step (by repeat (first | (with_reducible first | exact HB.out | apply below_alloc | apply pw_below_drewN | apply below_drew1 | refine below_set ?_ GE335.out) | exact HB.out)) hb); clear HO322; clear HO328; clear HO331; clear HO338; clear BK335; clear HB; have HO322 := n0_; have HO328 := n1_; have HO331 := n2_; have HO338 := n3_; have HO344 := n4_; have HO347 := n5_; have BK335 := n6_; have HB := n7_; clear n0_ n1_ n2_ n3_ n4_ n5_ n6_ n7_; (try clear hb); (try clear hb2); (try clear hk); (try clear hi); (try clear ho0); (try clear ho1)) | ((with_reducible refine gate_dst (N := 6) rfl ?_); refine box_event ?hg (N := 6) ?hd (cs := #[.int .i64 0, .bool false, .int .i64 0, .slice none 0 0, .slice none 0 0, .bool false, .bool false]) (t := 26) ?hr ?_; (case hd => rfl); (case hg => rfl); (case hr => first | (go_simp; done) | (go_simp; rfl)); intro gb351 hg w18 hbox hb; have n0_ := Aside0.mk (Kd.R_below (by (with_reducible repeat (first | apply Kd.R_alloc | apply Kd.R_drewN | apply Kd.R_drew)); exact HO322.out) hb); have n1_ := Aside0.mk (Kd.R_below (by (with_reducible repeat (first | apply Kd.R_alloc | apply Kd.R_drewN | apply Kd.R_drew)); exact HO328.out) hb); have n2_ := Aside0.mk (Kd.R_below (by (with_reducible repeat (first | apply Kd.R_alloc | apply Kd.R_drewN | apply Kd.R_drew)); exact HO331.out) hb); have n3_ := Aside0.mk (Kd.R_below (by (with_reducible repeat (first | apply Kd.R_alloc | apply Kd.R_drewN | apply Kd.R_drew)); exact HO338.out) hb); have n4_ := Aside0.mk (Kd.R_below (by (with_reducible repeat (first | apply Kd.R_alloc | apply Kd.R_drewN | apply Kd.R_drew)); exact HO344.out) hb); have n5_ := Aside0.mk (Kd.R_below (by (with_reducible repeat (first | apply Kd.R_alloc | apply Kd.R_drewN | apply Kd.R_drew)); exact HO347.out) hb); have n6_ := Aside0.mk (blk_below (g := gb335) (o := .cells #[.int .i64 t323, .bool t324, .int .i64 t325, .slice Ao13 t326.length co13, .slice Ao14 t329.length co14, .bool t332, .bool t333] 26 (0, 0)) (by (with_reducible repeat (first | refine blk_drewN ?_ _ | refine blk_drew ?_ | refine blk_alloc ?_ _)); exact BK335.out) hb); have n7_ := Aside0.mk (below_step (by repeat (first | (with_reducible first | exact HB.out | apply below_alloc | apply pw_below_drewN | apply below_drew1 | refine below_set ?_ GE335.out) | exact HB.out)) hb); have n8_ := Aside0.mk (hbox); have n9_ := Aside0.mk ((by rw [hg]; exact (below_size (by repeat (first | (with_reducible first | exact HB.out | apply below_alloc | apply pw_below_drewN | apply below_drew1 | refine below_set ?_ GE335.out) | exact HB.out))) : w.heap.size ≤ gb351)); have n10_ := Aside0.mk ((by rw [hg]; exact (below_size (by repeat (first | (with_reducible first | exact HB.out | apply below_alloc | apply pw_below_drewN | apply below_drew1 | refine below_set ?_ GE335.out) | exact HB.out))) : w.heap.size ≤ gb351)); have n11_ := Aside0.mk ((by rw [hg]; exact Nat.ne_of_lt (blk_lt (g := gb335) (o := .cells #[.int .i64 t323, .bool t324, .int .i64 t325, .slice Ao13 t326.length co13, .slice Ao14 t329.length co14, .bool t332, .bool t333] 26 (0, 0)) (by (with_reducible repeat (first | refine blk_drewN ?_ _ | refine blk_drew ?_ | refine blk_alloc ?_ _)); exact BK335.out)) : gb335 ≠ gb351)); have n12_ := Aside0.mk ((by rw [hg]; exact Nat.ne_of_gt (blk_lt (g := gb335) (o := .cells #[.int .i64 t323, .bool t324, .int .i64 t325, .slice Ao13 t326.length co13, .slice Ao14 t329.length co14, .bool t332, .bool t333] 26 (0, 0)) (by (with_reducible repeat (first | refine blk_drewN ?_ _ | refine blk_drew ?_ | refine blk_alloc ?_ _)); exact BK335.out)) : gb351 ≠ gb335)); clear HO322; clear HO328; clear HO331; clear HO338; clear HO344; clear HO347; clear BK335; clear HB; have HO322 := n0_; have HO328 := n1_; have HO331 := n2_; have HO338 := n3_; have HO344 := n4_; have HO347 := n5_; have BK335 := n6_; have HB := n7_; have BK351 := n8_; have GW351 := n9_; have GE351 := n10_; have NB335_351 := n11_; have NB351_335 := n12_; clear n0_ n1_ n2_ n3_ n4_ n5_ n6_ n7_ n8_ n9_ n10_ n11_ n12_; clear hb hbox hg; have hnb19 := NB351_335.out; have hnc19 := NB335_351.out; have hcz20_0 : w18.cell? ⟨gb351, 0, none⟩ = some (.int .i64 0) := (blk_cell BK351.out 0).trans rfl; have hcz20_1 : w18.cell? ⟨gb351, 1, none⟩ = some (.bool false) := (blk_cell BK351.out 1).trans rfl; have hcz20_2 : w18.cell? ⟨gb351, 2, none⟩ = some (.int .i64 0) := (blk_cell BK351.out 2).trans rfl; have hcz20_3 : w18.cell? ⟨gb351, 3, none⟩ = some (.slice none 0 0) := (blk_cell BK351.out 3).trans rfl; have hcz20_4 : w18.cell? ⟨gb351, 4, none⟩ = some (.slice none 0 0) := (blk_cell BK351.out 4).trans rfl; have hcz20_5 : w18.cell? ⟨gb351, 5, none⟩ = some (.bool false) := (blk_cell BK351.out 5).trans rfl; have hcz20_6 : w18.cell? ⟨gb351, 6, none⟩ = some (.bool false) := (blk_cell BK351.out 6).trans rfl; have hfz20_0 := blk_frozen BK351.out 0; have hfz20_1 := blk_frozen BK351.out 1; have hfz20_2 := blk_frozen BK351.out 2; have hfz20_3 := blk_frozen BK351.out 3; have hfz20_4 := blk_frozen BK351.out 4; have hfz20_5 := blk_frozen BK351.out 5; have hfz20_6 := blk_frozen BK351.out 6; obtain ⟨Ao21, co21, eo21⟩ := Kd.R_slice HO344.out; subst eo21; obtain ⟨Ao22, co22, eo22⟩ := Kd.R_slice HO347.out; subst eo22))
    (try simp only [Act.put, List.setIfInBounds_toArray, List.set_cons_zero, List.set_cons_succ])
    go_cut [37] (fun v37 wc => ∃ (kq : Nat) (x37_6 : Bool), v37 = .bool x37_6 ∧ Aside0 (laws_FnExactOldFrom.j0 kq l0 t334 t336 t350 x37_6 t323 t324 t325 t326 t329 t332 t333 t339 t340 t341 t342 t345 t348 t349 = some r) ∧ Aside0 (kq ≤ k) ∧ Aside0 (Kd.R (Kd.int .i64) 3 wc w.heap.size (fun k_ => some k_ ≠ ((.slice Ao13 t326.length co13) : Value).ownBlock ∧ some k_ ≠ ((.slice Ao14 t329.length co14) : Value).ownBlock ∧ some k_ ≠ ((.slice Ao21 t342.length co21) : Value).ownBlock ∧ some k_ ≠ ((.slice Ao22 t345.length co22) : Value).ownBlock) (.slice Ao16 t336.length co16) t336) ∧ Aside0 (Kd.R (Kd.int .i64) 3 wc w.heap.size (fun k_ => some k_ ≠ ((.slice Ao16 t336.length co16) : Value).ownBlock ∧ some k_ ≠ ((.slice Ao14 t329.length co14) : Value).ownBlock ∧ some k_ ≠ ((.slice Ao21 t342.length co21) : Value).ownBlock ∧ some k_ ≠ ((.slice Ao22 t345.length co22) : Value).ownBlock) (.slice Ao13 t326.length co13) t326) ∧ Aside0 (Kd.R (Kd.int .i64) 3 wc w.heap.size (fun k_ => some k_ ≠ ((.slice Ao16 t336.length co16) : Value).ownBlock ∧ some k_ ≠ ((.slice Ao13 t326.length co13) : Value).ownBlock ∧ some k_ ≠ ((.slice Ao21 t342.length co21) : Value).ownBlock ∧ some k_ ≠ ((.slice Ao22 t345.length co22) : Value).ownBlock) (.slice Ao14 t329.length co14) t329) ∧ Aside0 (Kd.R (Kd.int .i64) 3 wc w.heap.size (fun k_ => some k_ ≠ ((.slice Ao16 t336.length co16) : Value).ownBlock ∧ some k_ ≠ ((.slice Ao13 t326.length co13) : Value).ownBlock ∧ some k_ ≠ ((.slice Ao14 t329.length co14) : Value).ownBlock ∧ some k_ ≠ ((.slice Ao22 t345.length co22) : Value).ownBlock) (.slice Ao21 t342.length co21) t342) ∧ Aside0 (Kd.R (Kd.int .i64) 3 wc w.heap.size (fun k_ => some k_ ≠ ((.slice Ao16 t336.length co16) : Value).ownBlock ∧ some k_ ≠ ((.slice Ao13 t326.length co13) : Value).ownBlock ∧ some k_ ≠ ((.slice Ao14 t329.length co14) : Value).ownBlock ∧ some k_ ≠ ((.slice Ao21 t342.length co21) : Value).ownBlock) (.slice Ao22 t345.length co22) t345) ∧ Aside0 (wc.heap[gb335]? = some (.cells #[.int .i64 t323, .bool t324, .int .i64 t325, (.slice Ao13 t326.length co13), (.slice Ao14 t329.length co14), .bool t332, .bool t333] 26 (0, 0))) ∧ Aside0 (wc.heap[gb351]? = some (.cells #[.int .i64 t339, .bool t340, .int .i64 t341, (.slice Ao21 t342.length co21), (.slice Ao22 t345.length co22), .bool t348, .bool t349] 26 (0, 0))) ∧ Aside0 (Below w.heap.size w wc))
    case first =>
      have H := HC7.out
      clear HC7
      replace H := Option.bind_eq_some_iff.mp H
      obtain ⟨t352, A230, H⟩ := H
      replace H : (if t352 = true then (laws_FnExactOldFrom.j0 k l0 t334 t336 t350 (t350 != t334) t323 t324 t325 t326 t329 t332 t333 t339 t340 t341 t342 t345 t348 t349) else (laws_FnExactOldFrom.j0 k l0 t334 t336 t350 true t323 t324 t325 t326 t329 t332 t333 t339 t340 t341 t342 t345 t348 t349)) = some r := H
      have A23 := Aside0.mk A230
      clear A230
      by_cases c24 : t352 = true
      · subst c24
        have H1 : (laws_FnExactOldFrom.j0 k l0 t334 t336 t350 (t350 != t334) t323 t324 t325 t326 t329 t332 t333 t339 t340 t341 t342 t345 t348 t349) = some r := by rw [if_pos rfl] at H; exact H
        clear H
        have H := H1
        clear H1
        have H' := Aside0.mk H
        clear H
        have hnb25 := NB351_335.out
        have hnc25 := NB335_351.out
        have hcz26_0 : w18.cell? ⟨gb351, 0, none⟩ = some (.int .i64 0) := (blk_cell BK351.out 0).trans rfl
        have hcz26_1 : w18.cell? ⟨gb351, 1, none⟩ = some (.bool false) := (blk_cell BK351.out 1).trans rfl
        have hcz26_2 : w18.cell? ⟨gb351, 2, none⟩ = some (.int .i64 0) := (blk_cell BK351.out 2).trans rfl
        have hcz26_3 : w18.cell? ⟨gb351, 3, none⟩ = some (.slice none 0 0) := (blk_cell BK351.out 3).trans rfl
        have hcz26_4 : w18.cell? ⟨gb351, 4, none⟩ = some (.slice none 0 0) := (blk_cell BK351.out 4).trans rfl
        have hcz26_5 : w18.cell? ⟨gb351, 5, none⟩ = some (.bool false) := (blk_cell BK351.out 5).trans rfl
        have hcz26_6 : w18.cell? ⟨gb351, 6, none⟩ = some (.bool false) := (blk_cell BK351.out 6).trans rfl
        have hfz26_0 := blk_frozen BK351.out 0
        have hfz26_1 := blk_frozen BK351.out 1
        have hfz26_2 := blk_frozen BK351.out 2
        have hfz26_3 := blk_frozen BK351.out 3
        have hfz26_4 := blk_frozen BK351.out 4
        have hfz26_5 := blk_frozen BK351.out 5
        have hfz26_6 := blk_frozen BK351.out 6
        have hcz27_0 : w18.cell? ⟨gb335, 0, none⟩ = some (.int .i64 t323) := (blk_cell BK335.out 0).trans rfl
        have hcz27_1 : w18.cell? ⟨gb335, 1, none⟩ = some (.bool t324) := (blk_cell BK335.out 1).trans rfl
        have hcz27_2 : w18.cell? ⟨gb335, 2, none⟩ = some (.int .i64 t325) := (blk_cell BK335.out 2).trans rfl
        have hcz27_3 : w18.cell? ⟨gb335, 3, none⟩ = some (.slice Ao13 t326.length co13) := (blk_cell BK335.out 3).trans rfl
        have hcz27_4 : w18.cell? ⟨gb335, 4, none⟩ = some (.slice Ao14 t329.length co14) := (blk_cell BK335.out 4).trans rfl
        have hcz27_5 : w18.cell? ⟨gb335, 5, none⟩ = some (.bool t332) := (blk_cell BK335.out 5).trans rfl
        have hcz27_6 : w18.cell? ⟨gb335, 6, none⟩ = some (.bool t333) := (blk_cell BK335.out 6).trans rfl
        have hfz27_0 := blk_frozen BK335.out 0
        have hfz27_1 := blk_frozen BK335.out 1
        have hfz27_2 := blk_frozen BK335.out 2
        have hfz27_3 := blk_frozen BK335.out 3
        have hfz27_4 := blk_frozen BK335.out 4
        have hfz27_5 := blk_frozen BK335.out 5
        have hfz27_6 := blk_frozen BK335.out 6
        go_wp2_with (first | ((with_reducible refine gate_callee (f := 35) rfl ?_); refine goesL_ (some 31) rfl rfl Try.func35 (by kernel_rfl) rfl #[.agg #[.int .i64 t339, .bool t340, .int .i64 t341, .slice Ao21 t342.length co21, .slice Ao22 t345.length co22, .bool t348, .bool t349], .agg #[.int .i64 t323, .bool t324, .int .i64 t325, .slice Ao13 t326.length co13, .slice Ao14 t329.length co14, .bool t332, .bool t333]] rfl (by (try simp only [List.map_toArray, List.map_cons, List.map_nil]); first | done | rfl | (simp only [List.length_drop, List.length_take]; rfl)) ?_; (with_reducible refine (laws_eqOld.calls k t339 t340 t341 _ _ t342 _ _ t345 t348 t349 t323 t324 t325 _ _ t326 _ _ t329 t332 t333 true _ ?side1 ?side2 ?side3 ?side4 ?side5 ?side6 ?side7 ?side8 A23.out).mono ?_); (case side1 => refine (Kd.R_reads' (e := 3) (base := w.heap.size) (ok := fun k_ => ((((some k_ ≠ (.slice Ao22 t345.length co22 : Value).ownBlock ∧ some k_ ≠ (.slice Ao9 t320.length co9 : Value).ownBlock) ∧ some k_ ≠ (.slice Ao13 t326.length co13 : Value).ownBlock) ∧ some k_ ≠ (.slice Ao14 t329.length co14 : Value).ownBlock) ∧ some k_ ≠ (.slice Ao16 t336.length co16 : Value).ownBlock)) (n := t342.length) (c := co21) ?_).2.2; exact (by (with_reducible repeat (first | apply Kd.R_alloc | apply Kd.R_drewN | apply Kd.R_drew)); exact (Kd.R_mono (Kd.R_far (p := ⟨gb351, 6, none⟩) (Kd.R_far (p := ⟨gb351, 5, none⟩) (Kd.R_far (p := ⟨gb351, 4, none⟩) (Kd.R_far (p := ⟨gb351, 3, none⟩) (Kd.R_far (p := ⟨gb351, 2, none⟩) (Kd.R_far (p := ⟨gb351, 1, none⟩) (Kd.R_far (p := ⟨gb351, 0, none⟩) (Kd.R_types HO344.out BK351.out (by decide)) (fun _ hk => hk.2) (.int .i64 t339)) (fun _ hk => hk.2) (.bool t340)) (fun _ hk => hk.2) (.int .i64 t341)) (fun _ hk => hk.2) (.slice Ao21 t342.length co21)) (fun _ hk => hk.2) (.slice Ao22 t345.length co22)) (fun _ hk => hk.2) (.bool t348)) (fun _ hk => hk.2) (.bool t349)) (fun _ h_ => h_.1)))); (case side2 => exact (Kd.R_reads' HO344.out).2.1); (case side3 => refine (Kd.R_reads' (e := 3) (base := w.heap.size) (ok := fun k_ => ((((some k_ ≠ (.slice Ao21 t342.length co21 : Value).ownBlock ∧ some k_ ≠ (.slice Ao9 t320.length co9 : Value).ownBlock) ∧ some k_ ≠ (.slice Ao13 t326.length co13 : Value).ownBlock) ∧ some k_ ≠ (.slice Ao14 t329.length co14 : Value).ownBlock) ∧ some k_ ≠ (.slice Ao16 t336.length co16 : Value).ownBlock)) (n := t345.length) (c := co22) ?_).2.2; exact (by (with_reducible repeat (first | apply Kd.R_alloc | apply Kd.R_drewN | apply Kd.R_drew)); exact (Kd.R_mono (Kd.R_far (p := ⟨gb351, 6, none⟩) (Kd.R_far (p := ⟨gb351, 5, none⟩) (Kd.R_far (p := ⟨gb351, 4, none⟩) (Kd.R_far (p := ⟨gb351, 3, none⟩) (Kd.R_far (p := ⟨gb351, 2, none⟩) (Kd.R_far (p := ⟨gb351, 1, none⟩) (Kd.R_far (p := ⟨gb351, 0, none⟩) (Kd.R_types HO347.out BK351.out (by decide)) (fun _ hk => hk.2) (.int .i64 t339)) (fun _ hk => hk.2) (.bool t340)) (fun _ hk => hk.2) (.int .i64 t341)) (fun _ hk => hk.2) (.slice Ao21 t342.length co21)) (fun _ hk => hk.2) (.slice Ao22 t345.length co22)) (fun _ hk => hk.2) (.bool t348)) (fun _ hk => hk.2) (.bool t349)) (fun _ h_ => h_.1)))); (case side4 => exact (Kd.R_reads' HO347.out).2.1); (case side5 => refine (Kd.R_reads' (e := 3) (base := w.heap.size) (ok := fun k_ => ((((some k_ ≠ (.slice Ao14 t329.length co14 : Value).ownBlock ∧ some k_ ≠ (.slice Ao9 t320.length co9 : Value).ownBlock) ∧ some k_ ≠ (.slice Ao16 t336.length co16 : Value).ownBlock) ∧ some k_ ≠ (.slice Ao21 t342.length co21 : Value).ownBlock) ∧ some k_ ≠ (.slice Ao22 t345.length co22 : Value).ownBlock)) (n := t326.length) (c := co13) ?_).2.2; exact (by (with_reducible repeat (first | apply Kd.R_alloc | apply Kd.R_drewN | apply Kd.R_drew)); exact (Kd.R_mono (Kd.R_far (p := ⟨gb351, 6, none⟩) (Kd.R_far (p := ⟨gb351, 5, none⟩) (Kd.R_far (p := ⟨gb351, 4, none⟩) (Kd.R_far (p := ⟨gb351, 3, none⟩) (Kd.R_far (p := ⟨gb351, 2, none⟩) (Kd.R_far (p := ⟨gb351, 1, none⟩) (Kd.R_far (p := ⟨gb351, 0, none⟩) (Kd.R_types HO328.out BK351.out (by decide)) (fun _ hk => hk.2) (.int .i64 t339)) (fun _ hk => hk.2) (.bool t340)) (fun _ hk => hk.2) (.int .i64 t341)) (fun _ hk => hk.2) (.slice Ao21 t342.length co21)) (fun _ hk => hk.2) (.slice Ao22 t345.length co22)) (fun _ hk => hk.2) (.bool t348)) (fun _ hk => hk.2) (.bool t349)) (fun _ h_ => h_.1)))); (case side6 => exact (Kd.R_reads' HO328.out).2.1); (case side7 => refine (Kd.R_reads' (e := 3) (base := w.heap.size) (ok := fun k_ => ((((some k_ ≠ (.slice Ao13 t326.length co13 : Value).ownBlock ∧ some k_ ≠ (.slice Ao9 t320.length co9 : Value).ownBlock) ∧ some k_ ≠ (.slice Ao16 t336.length co16 : Value).ownBlock) ∧ some k_ ≠ (.slice Ao21 t342.length co21 : Value).ownBlock) ∧ some k_ ≠ (.slice Ao22 t345.length co22 : Value).ownBlock)) (n := t329.length) (c := co14) ?_).2.2; exact (by (with_reducible repeat (first | apply Kd.R_alloc | apply Kd.R_drewN | apply Kd.R_drew)); exact (Kd.R_mono (Kd.R_far (p := ⟨gb351, 6, none⟩) (Kd.R_far (p := ⟨gb351, 5, none⟩) (Kd.R_far (p := ⟨gb351, 4, none⟩) (Kd.R_far (p := ⟨gb351, 3, none⟩) (Kd.R_far (p := ⟨gb351, 2, none⟩) (Kd.R_far (p := ⟨gb351, 1, none⟩) (Kd.R_far (p := ⟨gb351, 0, none⟩) (Kd.R_types HO331.out BK351.out (by decide)) (fun _ hk => hk.2) (.int .i64 t339)) (fun _ hk => hk.2) (.bool t340)) (fun _ hk => hk.2) (.int .i64 t341)) (fun _ hk => hk.2) (.slice Ao21 t342.length co21)) (fun _ hk => hk.2) (.slice Ao22 t345.length co22)) (fun _ hk => hk.2) (.bool t348)) (fun _ hk => hk.2) (.bool t349)) (fun _ h_ => h_.1)))); (case side8 => exact (Kd.R_reads' HO331.out).2.1); rintro e w28 ⟨rfl, hb⟩; refine ⟨_, rfl, ?_⟩; have n0_ := Aside0.mk (Kd.R_below (by (with_reducible repeat (first | apply Kd.R_alloc | apply Kd.R_drewN | apply Kd.R_drew)); exact (Kd.R_mono (Kd.R_far (p := ⟨gb351, 6, none⟩) (Kd.R_far (p := ⟨gb351, 5, none⟩) (Kd.R_far (p := ⟨gb351, 4, none⟩) (Kd.R_far (p := ⟨gb351, 3, none⟩) (Kd.R_far (p := ⟨gb351, 2, none⟩) (Kd.R_far (p := ⟨gb351, 1, none⟩) (Kd.R_far (p := ⟨gb351, 0, none⟩) (Kd.R_types HO322.out BK351.out (by decide)) (fun _ hk => hk.2) (.int .i64 t339)) (fun _ hk => hk.2) (.bool t340)) (fun _ hk => hk.2) (.int .i64 t341)) (fun _ hk => hk.2) (.slice Ao21 t342.length co21)) (fun _ hk => hk.2) (.slice Ao22 t345.length co22)) (fun _ hk => hk.2) (.bool t348)) (fun _ hk => hk.2) (.bool t349)) (fun _ h_ => h_.1))) hb); have n1_ := Aside0.mk (Kd.R_below (by (with_reducible repeat (first | apply Kd.R_alloc | apply Kd.R_drewN | apply Kd.R_drew)); exact (Kd.R_mono (Kd.R_far (p := ⟨gb351, 6, none⟩) (Kd.R_far (p := ⟨gb351, 5, none⟩) (Kd.R_far (p := ⟨gb351, 4, none⟩) (Kd.R_far (p := ⟨gb351, 3, none⟩) (Kd.R_far (p := ⟨gb351, 2, none⟩) (Kd.R_far (p := ⟨gb351, 1, none⟩) (Kd.R_far (p := ⟨gb351, 0, none⟩) (Kd.R_types HO328.out BK351.out (by decide)) (fun _ hk => hk.2) (.int .i64 t339)) (fun _ hk => hk.2) (.bool t340)) (fun _ hk => hk.2) (.int .i64 t341)) (fun _ hk => hk.2) (.slice Ao21 t342.length co21)) (fun _ hk => hk.2) (.slice Ao22 t345.length co22)) (fun _ hk => hk.2) (.bool t348)) (fun _ hk => hk.2) (.bool t349)) (fun _ h_ => h_.1))) hb); have n2_ := Aside0.mk (Kd.R_below (by (with_reducible repeat (first | apply Kd.R_alloc | apply Kd.R_drewN | apply Kd.R_drew)); exact (Kd.R_mono (Kd.R_far (p := ⟨gb351, 6, none⟩) (Kd.R_far (p := ⟨gb351, 5, none⟩) (Kd.R_far (p := ⟨gb351, 4, none⟩) (Kd.R_far (p := ⟨gb351, 3, none⟩) (Kd.R_far (p := ⟨gb351, 2, none⟩) (Kd.R_far (p := ⟨gb351, 1, none⟩) (Kd.R_far (p := ⟨gb351, 0, none⟩) (Kd.R_types HO331.out BK351.out (by decide)) (fun _ hk => hk.2) (.int .i64 t339)) (fun _ hk => hk.2) (.bool t340)) (fun _ hk => hk.2) (.int .i64 t341)) (fun _ hk => hk.2) (.slice Ao21 t342.length co21)) (fun _ hk => hk.2) (.slice Ao22 t345.length co22)) (fun _ hk => hk.2) (.bool t348)) (fun _ hk => hk.2) (.bool t349)) (fun _ h_ => h_.1))) hb); have n3_ := Aside0.mk (Kd.R_below (by (with_reducible repeat (first | apply Kd.R_alloc | apply Kd.R_drewN | apply Kd.R_drew)); exact (Kd.R_mono (Kd.R_far (p := ⟨gb351, 6, none⟩) (Kd.R_far (p := ⟨gb351, 5, none⟩) (Kd.R_far (p := ⟨gb351, 4, none⟩) (Kd.R_far (p := ⟨gb351, 3, none⟩) (Kd.R_far (p := ⟨gb351, 2, none⟩) (Kd.R_far (p := ⟨gb351, 1, none⟩) (Kd.R_far (p := ⟨gb351, 0, none⟩) (Kd.R_types HO338.out BK351.out (by decide)) (fun _ hk => hk.2) (.int .i64 t339)) (fun _ hk => hk.2) (.bool t340)) (fun _ hk => hk.2) (.int .i64 t341)) (fun _ hk => hk.2) (.slice Ao21 t342.length co21)) (fun _ hk => hk.2) (.slice Ao22 t345.length co22)) (fun _ hk => hk.2) (.bool t348)) (fun _ hk => hk.2) (.bool t349)) (fun _ h_ => h_.1))) hb); have n4_ := Aside0.mk (Kd.R_below (by (with_reducible repeat (first | apply Kd.R_alloc | apply Kd.R_drewN | apply Kd.R_drew)); exact (Kd.R_mono (Kd.R_far (p := ⟨gb351, 6, none⟩) (Kd.R_far (p := ⟨gb351, 5, none⟩) (Kd.R_far (p := ⟨gb351, 4, none⟩) (Kd.R_far (p := ⟨gb351, 3, none⟩) (Kd.R_far (p := ⟨gb351, 2, none⟩) (Kd.R_far (p := ⟨gb351, 1, none⟩) (Kd.R_far (p := ⟨gb351, 0, none⟩) (Kd.R_types HO344.out BK351.out (by decide)) (fun _ hk => hk.2) (.int .i64 t339)) (fun _ hk => hk.2) (.bool t340)) (fun _ hk => hk.2) (.int .i64 t341)) (fun _ hk => hk.2) (.slice Ao21 t342.length co21)) (fun _ hk => hk.2) (.slice Ao22 t345.length co22)) (fun _ hk => hk.2) (.bool t348)) (fun _ hk => hk.2) (.bool t349)) (fun _ h_ => h_.1))) hb); have n5_ := Aside0.mk (Kd.R_below (by (with_reducible repeat (first | apply Kd.R_alloc | apply Kd.R_drewN | apply Kd.R_drew)); exact (Kd.R_mono (Kd.R_far (p := ⟨gb351, 6, none⟩) (Kd.R_far (p := ⟨gb351, 5, none⟩) (Kd.R_far (p := ⟨gb351, 4, none⟩) (Kd.R_far (p := ⟨gb351, 3, none⟩) (Kd.R_far (p := ⟨gb351, 2, none⟩) (Kd.R_far (p := ⟨gb351, 1, none⟩) (Kd.R_far (p := ⟨gb351, 0, none⟩) (Kd.R_types HO347.out BK351.out (by decide)) (fun _ hk => hk.2) (.int .i64 t339)) (fun _ hk => hk.2) (.bool t340)) (fun _ hk => hk.2) (.int .i64 t341)) (fun _ hk => hk.2) (.slice Ao21 t342.length co21)) (fun _ hk => hk.2) (.slice Ao22 t345.length co22)) (fun _ hk => hk.2) (.bool t348)) (fun _ hk => hk.2) (.bool t349)) (fun _ h_ => h_.1))) hb); have n6_ := Aside0.mk (blk_below (g := gb335) (o := .cells #[.int .i64 t323, .bool t324, .int .i64 t325, .slice Ao13 t326.length co13, .slice Ao14 t329.length co14, .bool t332, .bool t333] 26 (0, 0)) (by (with_reducible repeat (first | refine blk_drewN ?_ _ | refine blk_drew ?_ | refine blk_alloc ?_ _)); refine blk_far ?_ NB335_351.out _; (with_reducible repeat (first | refine blk_drewN ?_ _ | refine blk_drew ?_ | refine blk_alloc ?_ _)); refine blk_far ?_ NB335_351.out _; (with_reducible repeat (first | refine blk_drewN ?_ _ | refine blk_drew ?_ | refine blk_alloc ?_ _)); refine blk_far ?_ NB335_351.out _; (with_reducible repeat (first | refine blk_drewN ?_ _ | refine blk_drew ?_ | refine blk_alloc ?_ _)); refine blk_far ?_ NB335_351.out _; (with_reducible repeat (first | refine blk_drewN ?_ _ | refine blk_drew ?_ | refine blk_alloc ?_ _)); refine blk_far ?_ NB335_351.out _; (with_reducible repeat (first | refine blk_drewN ?_ _ | refine blk_drew ?_ | refine blk_alloc ?_ _)); refine blk_far ?_ NB335_351.out _; (with_reducible repeat (first | refine blk_drewN ?_ _ | refine blk_drew ?_ | refine blk_alloc ?_ _)); refine blk_far ?_ NB335_351.out _; (with_reducible repeat (first | refine blk_drewN ?_ _ | refine blk_drew ?_ | refine blk_alloc ?_ _)); exact BK335.out) hb); have n7_ := Aside0.mk (blk_below (g := gb351) (o := .cells #[.int .i64 t339, .bool t340, .int .i64 t341, .slice Ao21 t342.length co21, .slice Ao22 t345.length co22, .bool t348, .bool t349] 26 (0, 0)) (by (with_reducible repeat (first | refine blk_drewN ?_ _ | refine blk_drew ?_ | refine blk_alloc ?_ _)); refine blk_put (cs := #[.int .i64 t339, .bool t340, .int .i64 t341, .slice Ao21 t342.length co21, .slice Ao22 t345.length co22, .bool t348, .bool false]) ?_ 6 _ rfl; (with_reducible repeat (first | refine blk_drewN ?_ _ | refine blk_drew ?_ | refine blk_alloc ?_ _)); refine blk_put (cs := #[.int .i64 t339, .bool t340, .int .i64 t341, .slice Ao21 t342.length co21, .slice Ao22 t345.length co22, .bool false, .bool false]) ?_ 5 _ rfl; (with_reducible repeat (first | refine blk_drewN ?_ _ | refine blk_drew ?_ | refine blk_alloc ?_ _)); refine blk_put (cs := #[.int .i64 t339, .bool t340, .int .i64 t341, .slice Ao21 t342.length co21, .slice none 0 0, .bool false, .bool false]) ?_ 4 _ rfl; (with_reducible repeat (first | refine blk_drewN ?_ _ | refine blk_drew ?_ | refine blk_alloc ?_ _)); refine blk_put (cs := #[.int .i64 t339, .bool t340, .int .i64 t341, .slice none 0 0, .slice none 0 0, .bool false, .bool false]) ?_ 3 _ rfl; (with_reducible repeat (first | refine blk_drewN ?_ _ | refine blk_drew ?_ | refine blk_alloc ?_ _)); refine blk_put (cs := #[.int .i64 t339, .bool t340, .int .i64 0, .slice none 0 0, .slice none 0 0, .bool false, .bool false]) ?_ 2 _ rfl; (with_reducible repeat (first | refine blk_drewN ?_ _ | refine blk_drew ?_ | refine blk_alloc ?_ _)); refine blk_put (cs := #[.int .i64 t339, .bool false, .int .i64 0, .slice none 0 0, .slice none 0 0, .bool false, .bool false]) ?_ 1 _ rfl; (with_reducible repeat (first | refine blk_drewN ?_ _ | refine blk_drew ?_ | refine blk_alloc ?_ _)); refine blk_put (cs := #[.int .i64 0, .bool false, .int .i64 0, .slice none 0 0, .slice none 0 0, .bool false, .bool false]) ?_ 0 _ rfl; (with_reducible repeat (first | refine blk_drewN ?_ _ | refine blk_drew ?_ | refine blk_alloc ?_ _)); exact BK351.out) hb); have n8_ := Aside0.mk (below_step (by repeat (first | (with_reducible first | exact HB.out | apply below_alloc | apply pw_below_drewN | apply below_drew1 | refine below_set ?_ GE335.out | refine below_set ?_ GE351.out) | exact HB.out)) hb); clear HO322; clear HO328; clear HO331; clear HO338; clear HO344; clear HO347; clear BK335; clear BK351; clear HB; have HO322 := n0_; have HO328 := n1_; have HO331 := n2_; have HO338 := n3_; have HO344 := n4_; have HO347 := n5_; have BK335 := n6_; have BK351 := n7_; have HB := n8_; clear n0_ n1_ n2_ n3_ n4_ n5_ n6_ n7_ n8_; (try clear hb); (try clear hb2); (try clear hk); (try clear hi)))
        go_meet
        case rel => exact ⟨_, ((t350 != t334)), (by first | rfl | (simp; done) | (simp [*]; done)), H', ⟨by first | omega | exact Nat.le_refl _⟩, ⟨by (with_reducible repeat (first | apply Kd.R_alloc | apply Kd.R_drewN | apply Kd.R_drew)); exact Kd.R_mono HO338.out (fun _ hk => ⟨hk.1.1.1.2, ⟨hk.1.1.2, ⟨hk.1.2, hk.2⟩⟩⟩)⟩, ⟨by (with_reducible repeat (first | apply Kd.R_alloc | apply Kd.R_drewN | apply Kd.R_drew)); exact Kd.R_mono HO328.out (fun _ hk => ⟨hk.1.1.2, ⟨hk.1.1.1.1, ⟨hk.1.2, hk.2⟩⟩⟩)⟩, ⟨by (with_reducible repeat (first | apply Kd.R_alloc | apply Kd.R_drewN | apply Kd.R_drew)); exact Kd.R_mono HO331.out (fun _ hk => ⟨hk.1.1.2, ⟨hk.1.1.1.1, ⟨hk.1.2, hk.2⟩⟩⟩)⟩, ⟨by (with_reducible repeat (first | apply Kd.R_alloc | apply Kd.R_drewN | apply Kd.R_drew)); exact Kd.R_mono HO344.out (fun _ hk => ⟨hk.2, ⟨hk.1.1.2, ⟨hk.1.2, hk.1.1.1.1⟩⟩⟩)⟩, ⟨by (with_reducible repeat (first | apply Kd.R_alloc | apply Kd.R_drewN | apply Kd.R_drew)); exact Kd.R_mono HO347.out (fun _ hk => ⟨hk.2, ⟨hk.1.1.2, ⟨hk.1.2, hk.1.1.1.1⟩⟩⟩)⟩, ⟨by (with_reducible repeat (first | refine blk_drewN ?_ _ | refine blk_drew ?_ | refine blk_alloc ?_ _)); exact BK335.out⟩, ⟨by (with_reducible repeat (first | refine blk_drewN ?_ _ | refine blk_drew ?_ | refine blk_alloc ?_ _)); exact BK351.out⟩, ⟨by repeat (first | (with_reducible first | exact HB.out | apply below_alloc | apply pw_below_drewN | apply below_drew1 | refine below_set ?_ GE335.out | refine below_set ?_ GE351.out) | exact HB.out)⟩⟩
      · replace c24 := Bool.eq_false_iff.mpr c24
        subst c24
        have H1 : (laws_FnExactOldFrom.j0 k l0 t334 t336 t350 true t323 t324 t325 t326 t329 t332 t333 t339 t340 t341 t342 t345 t348 t349) = some r := by rw [if_neg (show ¬ (false = true) by decide)] at H; exact H
        clear H
        have H := H1
        clear H1
        have H' := Aside0.mk H
        clear H
        have hnb29 := NB351_335.out
        have hnc29 := NB335_351.out
        have hcz30_0 : w18.cell? ⟨gb351, 0, none⟩ = some (.int .i64 0) := (blk_cell BK351.out 0).trans rfl
        have hcz30_1 : w18.cell? ⟨gb351, 1, none⟩ = some (.bool false) := (blk_cell BK351.out 1).trans rfl
        have hcz30_2 : w18.cell? ⟨gb351, 2, none⟩ = some (.int .i64 0) := (blk_cell BK351.out 2).trans rfl
        have hcz30_3 : w18.cell? ⟨gb351, 3, none⟩ = some (.slice none 0 0) := (blk_cell BK351.out 3).trans rfl
        have hcz30_4 : w18.cell? ⟨gb351, 4, none⟩ = some (.slice none 0 0) := (blk_cell BK351.out 4).trans rfl
        have hcz30_5 : w18.cell? ⟨gb351, 5, none⟩ = some (.bool false) := (blk_cell BK351.out 5).trans rfl
        have hcz30_6 : w18.cell? ⟨gb351, 6, none⟩ = some (.bool false) := (blk_cell BK351.out 6).trans rfl
        have hfz30_0 := blk_frozen BK351.out 0
        have hfz30_1 := blk_frozen BK351.out 1
        have hfz30_2 := blk_frozen BK351.out 2
        have hfz30_3 := blk_frozen BK351.out 3
        have hfz30_4 := blk_frozen BK351.out 4
        have hfz30_5 := blk_frozen BK351.out 5
        have hfz30_6 := blk_frozen BK351.out 6
        have hcz31_0 : w18.cell? ⟨gb335, 0, none⟩ = some (.int .i64 t323) := (blk_cell BK335.out 0).trans rfl
        have hcz31_1 : w18.cell? ⟨gb335, 1, none⟩ = some (.bool t324) := (blk_cell BK335.out 1).trans rfl
        have hcz31_2 : w18.cell? ⟨gb335, 2, none⟩ = some (.int .i64 t325) := (blk_cell BK335.out 2).trans rfl
        have hcz31_3 : w18.cell? ⟨gb335, 3, none⟩ = some (.slice Ao13 t326.length co13) := (blk_cell BK335.out 3).trans rfl
        have hcz31_4 : w18.cell? ⟨gb335, 4, none⟩ = some (.slice Ao14 t329.length co14) := (blk_cell BK335.out 4).trans rfl
        have hcz31_5 : w18.cell? ⟨gb335, 5, none⟩ = some (.bool t332) := (blk_cell BK335.out 5).trans rfl
        have hcz31_6 : w18.cell? ⟨gb335, 6, none⟩ = some (.bool t333) := (blk_cell BK335.out 6).trans rfl
        have hfz31_0 := blk_frozen BK335.out 0
        have hfz31_1 := blk_frozen BK335.out 1
        have hfz31_2 := blk_frozen BK335.out 2
        have hfz31_3 := blk_frozen BK335.out 3
        have hfz31_4 := blk_frozen BK335.out 4
        have hfz31_5 := blk_frozen BK335.out 5
        have hfz31_6 := blk_frozen BK335.out 6
        go_wp2_with (first | ((with_reducible refine gate_callee (f := 35) rfl ?_); refine goesL_ (some 31) rfl rfl Try.func35 (by kernel_rfl) rfl #[.agg #[.int .i64 t339, .bool t340, .int .i64 t341, .slice Ao21 t342.length co21, .slice Ao22 t345.length co22, .bool t348, .bool t349], .agg #[.int .i64 t323, .bool t324, .int .i64 t325, .slice Ao13 t326.length co13, .slice Ao14 t329.length co14, .bool t332, .bool t333]] rfl (by (try simp only [List.map_toArray, List.map_cons, List.map_nil]); first | done | rfl | (simp only [List.length_drop, List.length_take]; rfl)) ?_; (with_reducible refine (laws_eqOld.calls k t339 t340 t341 _ _ t342 _ _ t345 t348 t349 t323 t324 t325 _ _ t326 _ _ t329 t332 t333 false _ ?side1 ?side2 ?side3 ?side4 ?side5 ?side6 ?side7 ?side8 A23.out).mono ?_); (case side1 => refine (Kd.R_reads' (e := 3) (base := w.heap.size) (ok := fun k_ => ((((some k_ ≠ (.slice Ao22 t345.length co22 : Value).ownBlock ∧ some k_ ≠ (.slice Ao9 t320.length co9 : Value).ownBlock) ∧ some k_ ≠ (.slice Ao13 t326.length co13 : Value).ownBlock) ∧ some k_ ≠ (.slice Ao14 t329.length co14 : Value).ownBlock) ∧ some k_ ≠ (.slice Ao16 t336.length co16 : Value).ownBlock)) (n := t342.length) (c := co21) ?_).2.2; exact (by (with_reducible repeat (first | apply Kd.R_alloc | apply Kd.R_drewN | apply Kd.R_drew)); exact (Kd.R_mono (Kd.R_far (p := ⟨gb351, 6, none⟩) (Kd.R_far (p := ⟨gb351, 5, none⟩) (Kd.R_far (p := ⟨gb351, 4, none⟩) (Kd.R_far (p := ⟨gb351, 3, none⟩) (Kd.R_far (p := ⟨gb351, 2, none⟩) (Kd.R_far (p := ⟨gb351, 1, none⟩) (Kd.R_far (p := ⟨gb351, 0, none⟩) (Kd.R_types HO344.out BK351.out (by decide)) (fun _ hk => hk.2) (.int .i64 t339)) (fun _ hk => hk.2) (.bool t340)) (fun _ hk => hk.2) (.int .i64 t341)) (fun _ hk => hk.2) (.slice Ao21 t342.length co21)) (fun _ hk => hk.2) (.slice Ao22 t345.length co22)) (fun _ hk => hk.2) (.bool t348)) (fun _ hk => hk.2) (.bool t349)) (fun _ h_ => h_.1)))); (case side2 => exact (Kd.R_reads' HO344.out).2.1); (case side3 => refine (Kd.R_reads' (e := 3) (base := w.heap.size) (ok := fun k_ => ((((some k_ ≠ (.slice Ao21 t342.length co21 : Value).ownBlock ∧ some k_ ≠ (.slice Ao9 t320.length co9 : Value).ownBlock) ∧ some k_ ≠ (.slice Ao13 t326.length co13 : Value).ownBlock) ∧ some k_ ≠ (.slice Ao14 t329.length co14 : Value).ownBlock) ∧ some k_ ≠ (.slice Ao16 t336.length co16 : Value).ownBlock)) (n := t345.length) (c := co22) ?_).2.2; exact (by (with_reducible repeat (first | apply Kd.R_alloc | apply Kd.R_drewN | apply Kd.R_drew)); exact (Kd.R_mono (Kd.R_far (p := ⟨gb351, 6, none⟩) (Kd.R_far (p := ⟨gb351, 5, none⟩) (Kd.R_far (p := ⟨gb351, 4, none⟩) (Kd.R_far (p := ⟨gb351, 3, none⟩) (Kd.R_far (p := ⟨gb351, 2, none⟩) (Kd.R_far (p := ⟨gb351, 1, none⟩) (Kd.R_far (p := ⟨gb351, 0, none⟩) (Kd.R_types HO347.out BK351.out (by decide)) (fun _ hk => hk.2) (.int .i64 t339)) (fun _ hk => hk.2) (.bool t340)) (fun _ hk => hk.2) (.int .i64 t341)) (fun _ hk => hk.2) (.slice Ao21 t342.length co21)) (fun _ hk => hk.2) (.slice Ao22 t345.length co22)) (fun _ hk => hk.2) (.bool t348)) (fun _ hk => hk.2) (.bool t349)) (fun _ h_ => h_.1)))); (case side4 => exact (Kd.R_reads' HO347.out).2.1); (case side5 => refine (Kd.R_reads' (e := 3) (base := w.heap.size) (ok := fun k_ => ((((some k_ ≠ (.slice Ao14 t329.length co14 : Value).ownBlock ∧ some k_ ≠ (.slice Ao9 t320.length co9 : Value).ownBlock) ∧ some k_ ≠ (.slice Ao16 t336.length co16 : Value).ownBlock) ∧ some k_ ≠ (.slice Ao21 t342.length co21 : Value).ownBlock) ∧ some k_ ≠ (.slice Ao22 t345.length co22 : Value).ownBlock)) (n := t326.length) (c := co13) ?_).2.2; exact (by (with_reducible repeat (first | apply Kd.R_alloc | apply Kd.R_drewN | apply Kd.R_drew)); exact (Kd.R_mono (Kd.R_far (p := ⟨gb351, 6, none⟩) (Kd.R_far (p := ⟨gb351, 5, none⟩) (Kd.R_far (p := ⟨gb351, 4, none⟩) (Kd.R_far (p := ⟨gb351, 3, none⟩) (Kd.R_far (p := ⟨gb351, 2, none⟩) (Kd.R_far (p := ⟨gb351, 1, none⟩) (Kd.R_far (p := ⟨gb351, 0, none⟩) (Kd.R_types HO328.out BK351.out (by decide)) (fun _ hk => hk.2) (.int .i64 t339)) (fun _ hk => hk.2) (.bool t340)) (fun _ hk => hk.2) (.int .i64 t341)) (fun _ hk => hk.2) (.slice Ao21 t342.length co21)) (fun _ hk => hk.2) (.slice Ao22 t345.length co22)) (fun _ hk => hk.2) (.bool t348)) (fun _ hk => hk.2) (.bool t349)) (fun _ h_ => h_.1)))); (case side6 => exact (Kd.R_reads' HO328.out).2.1); (case side7 => refine (Kd.R_reads' (e := 3) (base := w.heap.size) (ok := fun k_ => ((((some k_ ≠ (.slice Ao13 t326.length co13 : Value).ownBlock ∧ some k_ ≠ (.slice Ao9 t320.length co9 : Value).ownBlock) ∧ some k_ ≠ (.slice Ao16 t336.length co16 : Value).ownBlock) ∧ some k_ ≠ (.slice Ao21 t342.length co21 : Value).ownBlock) ∧ some k_ ≠ (.slice Ao22 t345.length co22 : Value).ownBlock)) (n := t329.length) (c := co14) ?_).2.2; exact (by (with_reducible repeat (first | apply Kd.R_alloc | apply Kd.R_drewN | apply Kd.R_drew)); exact (Kd.R_mono (Kd.R_far (p := ⟨gb351, 6, none⟩) (Kd.R_far (p := ⟨gb351, 5, none⟩) (Kd.R_far (p := ⟨gb351, 4, none⟩) (Kd.R_far (p := ⟨gb351, 3, none⟩) (Kd.R_far (p := ⟨gb351, 2, none⟩) (Kd.R_far (p := ⟨gb351, 1, none⟩) (Kd.R_far (p := ⟨gb351, 0, none⟩) (Kd.R_types HO331.out BK351.out (by decide)) (fun _ hk => hk.2) (.int .i64 t339)) (fun _ hk => hk.2) (.bool t340)) (fun _ hk => hk.2) (.int .i64 t341)) (fun _ hk => hk.2) (.slice Ao21 t342.length co21)) (fun _ hk => hk.2) (.slice Ao22 t345.length co22)) (fun _ hk => hk.2) (.bool t348)) (fun _ hk => hk.2) (.bool t349)) (fun _ h_ => h_.1)))); (case side8 => exact (Kd.R_reads' HO331.out).2.1); rintro e w32 ⟨rfl, hb⟩; refine ⟨_, rfl, ?_⟩; have n0_ := Aside0.mk (Kd.R_below (by (with_reducible repeat (first | apply Kd.R_alloc | apply Kd.R_drewN | apply Kd.R_drew)); exact (Kd.R_mono (Kd.R_far (p := ⟨gb351, 6, none⟩) (Kd.R_far (p := ⟨gb351, 5, none⟩) (Kd.R_far (p := ⟨gb351, 4, none⟩) (Kd.R_far (p := ⟨gb351, 3, none⟩) (Kd.R_far (p := ⟨gb351, 2, none⟩) (Kd.R_far (p := ⟨gb351, 1, none⟩) (Kd.R_far (p := ⟨gb351, 0, none⟩) (Kd.R_types HO322.out BK351.out (by decide)) (fun _ hk => hk.2) (.int .i64 t339)) (fun _ hk => hk.2) (.bool t340)) (fun _ hk => hk.2) (.int .i64 t341)) (fun _ hk => hk.2) (.slice Ao21 t342.length co21)) (fun _ hk => hk.2) (.slice Ao22 t345.length co22)) (fun _ hk => hk.2) (.bool t348)) (fun _ hk => hk.2) (.bool t349)) (fun _ h_ => h_.1))) hb); have n1_ := Aside0.mk (Kd.R_below (by (with_reducible repeat (first | apply Kd.R_alloc | apply Kd.R_drewN | apply Kd.R_drew)); exact (Kd.R_mono (Kd.R_far (p := ⟨gb351, 6, none⟩) (Kd.R_far (p := ⟨gb351, 5, none⟩) (Kd.R_far (p := ⟨gb351, 4, none⟩) (Kd.R_far (p := ⟨gb351, 3, none⟩) (Kd.R_far (p := ⟨gb351, 2, none⟩) (Kd.R_far (p := ⟨gb351, 1, none⟩) (Kd.R_far (p := ⟨gb351, 0, none⟩) (Kd.R_types HO328.out BK351.out (by decide)) (fun _ hk => hk.2) (.int .i64 t339)) (fun _ hk => hk.2) (.bool t340)) (fun _ hk => hk.2) (.int .i64 t341)) (fun _ hk => hk.2) (.slice Ao21 t342.length co21)) (fun _ hk => hk.2) (.slice Ao22 t345.length co22)) (fun _ hk => hk.2) (.bool t348)) (fun _ hk => hk.2) (.bool t349)) (fun _ h_ => h_.1))) hb); have n2_ := Aside0.mk (Kd.R_below (by (with_reducible repeat (first | apply Kd.R_alloc | apply Kd.R_drewN | apply Kd.R_drew)); exact (Kd.R_mono (Kd.R_far (p := ⟨gb351, 6, none⟩) (Kd.R_far (p := ⟨gb351, 5, none⟩) (Kd.R_far (p := ⟨gb351, 4, none⟩) (Kd.R_far (p := ⟨gb351, 3, none⟩) (Kd.R_far (p := ⟨gb351, 2, none⟩) (Kd.R_far (p := ⟨gb351, 1, none⟩) (Kd.R_far (p := ⟨gb351, 0, none⟩) (Kd.R_types HO331.out BK351.out (by decide)) (fun _ hk => hk.2) (.int .i64 t339)) (fun _ hk => hk.2) (.bool t340)) (fun _ hk => hk.2) (.int .i64 t341)) (fun _ hk => hk.2) (.slice Ao21 t342.length co21)) (fun _ hk => hk.2) (.slice Ao22 t345.length co22)) (fun _ hk => hk.2) (.bool t348)) (fun _ hk => hk.2) (.bool t349)) (fun _ h_ => h_.1))) hb); have n3_ := Aside0.mk (Kd.R_below (by (with_reducible repeat (first | apply Kd.R_alloc | apply Kd.R_drewN | apply Kd.R_drew)); exact (Kd.R_mono (Kd.R_far (p := ⟨gb351, 6, none⟩) (Kd.R_far (p := ⟨gb351, 5, none⟩) (Kd.R_far (p := ⟨gb351, 4, none⟩) (Kd.R_far (p := ⟨gb351, 3, none⟩) (Kd.R_far (p := ⟨gb351, 2, none⟩) (Kd.R_far (p := ⟨gb351, 1, none⟩) (Kd.R_far (p := ⟨gb351, 0, none⟩) (Kd.R_types HO338.out BK351.out (by decide)) (fun _ hk => hk.2) (.int .i64 t339)) (fun _ hk => hk.2) (.bool t340)) (fun _ hk => hk.2) (.int .i64 t341)) (fun _ hk => hk.2) (.slice Ao21 t342.length co21)) (fun _ hk => hk.2) (.slice Ao22 t345.length co22)) (fun _ hk => hk.2) (.bool t348)) (fun _ hk => hk.2) (.bool t349)) (fun _ h_ => h_.1))) hb); have n4_ := Aside0.mk (Kd.R_below (by (with_reducible repeat (first | apply Kd.R_alloc | apply Kd.R_drewN | apply Kd.R_drew)); exact (Kd.R_mono (Kd.R_far (p := ⟨gb351, 6, none⟩) (Kd.R_far (p := ⟨gb351, 5, none⟩) (Kd.R_far (p := ⟨gb351, 4, none⟩) (Kd.R_far (p := ⟨gb351, 3, none⟩) (Kd.R_far (p := ⟨gb351, 2, none⟩) (Kd.R_far (p := ⟨gb351, 1, none⟩) (Kd.R_far (p := ⟨gb351, 0, none⟩) (Kd.R_types HO344.out BK351.out (by decide)) (fun _ hk => hk.2) (.int .i64 t339)) (fun _ hk => hk.2) (.bool t340)) (fun _ hk => hk.2) (.int .i64 t341)) (fun _ hk => hk.2) (.slice Ao21 t342.length co21)) (fun _ hk => hk.2) (.slice Ao22 t345.length co22)) (fun _ hk => hk.2) (.bool t348)) (fun _ hk => hk.2) (.bool t349)) (fun _ h_ => h_.1))) hb); have n5_ := Aside0.mk (Kd.R_below (by (with_reducible repeat (first | apply Kd.R_alloc | apply Kd.R_drewN | apply Kd.R_drew)); exact (Kd.R_mono (Kd.R_far (p := ⟨gb351, 6, none⟩) (Kd.R_far (p := ⟨gb351, 5, none⟩) (Kd.R_far (p := ⟨gb351, 4, none⟩) (Kd.R_far (p := ⟨gb351, 3, none⟩) (Kd.R_far (p := ⟨gb351, 2, none⟩) (Kd.R_far (p := ⟨gb351, 1, none⟩) (Kd.R_far (p := ⟨gb351, 0, none⟩) (Kd.R_types HO347.out BK351.out (by decide)) (fun _ hk => hk.2) (.int .i64 t339)) (fun _ hk => hk.2) (.bool t340)) (fun _ hk => hk.2) (.int .i64 t341)) (fun _ hk => hk.2) (.slice Ao21 t342.length co21)) (fun _ hk => hk.2) (.slice Ao22 t345.length co22)) (fun _ hk => hk.2) (.bool t348)) (fun _ hk => hk.2) (.bool t349)) (fun _ h_ => h_.1))) hb); have n6_ := Aside0.mk (blk_below (g := gb335) (o := .cells #[.int .i64 t323, .bool t324, .int .i64 t325, .slice Ao13 t326.length co13, .slice Ao14 t329.length co14, .bool t332, .bool t333] 26 (0, 0)) (by (with_reducible repeat (first | refine blk_drewN ?_ _ | refine blk_drew ?_ | refine blk_alloc ?_ _)); refine blk_far ?_ NB335_351.out _; (with_reducible repeat (first | refine blk_drewN ?_ _ | refine blk_drew ?_ | refine blk_alloc ?_ _)); refine blk_far ?_ NB335_351.out _; (with_reducible repeat (first | refine blk_drewN ?_ _ | refine blk_drew ?_ | refine blk_alloc ?_ _)); refine blk_far ?_ NB335_351.out _; (with_reducible repeat (first | refine blk_drewN ?_ _ | refine blk_drew ?_ | refine blk_alloc ?_ _)); refine blk_far ?_ NB335_351.out _; (with_reducible repeat (first | refine blk_drewN ?_ _ | refine blk_drew ?_ | refine blk_alloc ?_ _)); refine blk_far ?_ NB335_351.out _; (with_reducible repeat (first | refine blk_drewN ?_ _ | refine blk_drew ?_ | refine blk_alloc ?_ _)); refine blk_far ?_ NB335_351.out _; (with_reducible repeat (first | refine blk_drewN ?_ _ | refine blk_drew ?_ | refine blk_alloc ?_ _)); refine blk_far ?_ NB335_351.out _; (with_reducible repeat (first | refine blk_drewN ?_ _ | refine blk_drew ?_ | refine blk_alloc ?_ _)); exact BK335.out) hb); have n7_ := Aside0.mk (blk_below (g := gb351) (o := .cells #[.int .i64 t339, .bool t340, .int .i64 t341, .slice Ao21 t342.length co21, .slice Ao22 t345.length co22, .bool t348, .bool t349] 26 (0, 0)) (by (with_reducible repeat (first | refine blk_drewN ?_ _ | refine blk_drew ?_ | refine blk_alloc ?_ _)); refine blk_put (cs := #[.int .i64 t339, .bool t340, .int .i64 t341, .slice Ao21 t342.length co21, .slice Ao22 t345.length co22, .bool t348, .bool false]) ?_ 6 _ rfl; (with_reducible repeat (first | refine blk_drewN ?_ _ | refine blk_drew ?_ | refine blk_alloc ?_ _)); refine blk_put (cs := #[.int .i64 t339, .bool t340, .int .i64 t341, .slice Ao21 t342.length co21, .slice Ao22 t345.length co22, .bool false, .bool false]) ?_ 5 _ rfl; (with_reducible repeat (first | refine blk_drewN ?_ _ | refine blk_drew ?_ | refine blk_alloc ?_ _)); refine blk_put (cs := #[.int .i64 t339, .bool t340, .int .i64 t341, .slice Ao21 t342.length co21, .slice none 0 0, .bool false, .bool false]) ?_ 4 _ rfl; (with_reducible repeat (first | refine blk_drewN ?_ _ | refine blk_drew ?_ | refine blk_alloc ?_ _)); refine blk_put (cs := #[.int .i64 t339, .bool t340, .int .i64 t341, .slice none 0 0, .slice none 0 0, .bool false, .bool false]) ?_ 3 _ rfl; (with_reducible repeat (first | refine blk_drewN ?_ _ | refine blk_drew ?_ | refine blk_alloc ?_ _)); refine blk_put (cs := #[.int .i64 t339, .bool t340, .int .i64 0, .slice none 0 0, .slice none 0 0, .bool false, .bool false]) ?_ 2 _ rfl; (with_reducible repeat (first | refine blk_drewN ?_ _ | refine blk_drew ?_ | refine blk_alloc ?_ _)); refine blk_put (cs := #[.int .i64 t339, .bool false, .int .i64 0, .slice none 0 0, .slice none 0 0, .bool false, .bool false]) ?_ 1 _ rfl; (with_reducible repeat (first | refine blk_drewN ?_ _ | refine blk_drew ?_ | refine blk_alloc ?_ _)); refine blk_put (cs := #[.int .i64 0, .bool false, .int .i64 0, .slice none 0 0, .slice none 0 0, .bool false, .bool false]) ?_ 0 _ rfl; (with_reducible repeat (first | refine blk_drewN ?_ _ | refine blk_drew ?_ | refine blk_alloc ?_ _)); exact BK351.out) hb); have n8_ := Aside0.mk (below_step (by repeat (first | (with_reducible first | exact HB.out | apply below_alloc | apply pw_below_drewN | apply below_drew1 | refine below_set ?_ GE335.out | refine below_set ?_ GE351.out) | exact HB.out)) hb); clear HO322; clear HO328; clear HO331; clear HO338; clear HO344; clear HO347; clear BK335; clear BK351; clear HB; have HO322 := n0_; have HO328 := n1_; have HO331 := n2_; have HO338 := n3_; have HO344 := n4_; have HO347 := n5_; have BK335 := n6_; have BK351 := n7_; have HB := n8_; clear n0_ n1_ n2_ n3_ n4_ n5_ n6_ n7_ n8_; (try clear hb); (try clear hb2); (try clear hk); (try clear hi)))
        go_meet
        case rel => exact ⟨_, (true), (by first | rfl | (simp; done) | (simp [*]; done)), H', ⟨by first | omega | exact Nat.le_refl _⟩, ⟨by (with_reducible repeat (first | apply Kd.R_alloc | apply Kd.R_drewN | apply Kd.R_drew)); exact Kd.R_mono HO338.out (fun _ hk => ⟨hk.1.1.1.2, ⟨hk.1.1.2, ⟨hk.1.2, hk.2⟩⟩⟩)⟩, ⟨by (with_reducible repeat (first | apply Kd.R_alloc | apply Kd.R_drewN | apply Kd.R_drew)); exact Kd.R_mono HO328.out (fun _ hk => ⟨hk.1.1.2, ⟨hk.1.1.1.1, ⟨hk.1.2, hk.2⟩⟩⟩)⟩, ⟨by (with_reducible repeat (first | apply Kd.R_alloc | apply Kd.R_drewN | apply Kd.R_drew)); exact Kd.R_mono HO331.out (fun _ hk => ⟨hk.1.1.2, ⟨hk.1.1.1.1, ⟨hk.1.2, hk.2⟩⟩⟩)⟩, ⟨by (with_reducible repeat (first | apply Kd.R_alloc | apply Kd.R_drewN | apply Kd.R_drew)); exact Kd.R_mono HO344.out (fun _ hk => ⟨hk.2, ⟨hk.1.1.2, ⟨hk.1.2, hk.1.1.1.1⟩⟩⟩)⟩, ⟨by (with_reducible repeat (first | apply Kd.R_alloc | apply Kd.R_drewN | apply Kd.R_drew)); exact Kd.R_mono HO347.out (fun _ hk => ⟨hk.2, ⟨hk.1.1.2, ⟨hk.1.2, hk.1.1.1.1⟩⟩⟩)⟩, ⟨by (with_reducible repeat (first | refine blk_drewN ?_ _ | refine blk_drew ?_ | refine blk_alloc ?_ _)); exact BK335.out⟩, ⟨by (with_reducible repeat (first | refine blk_drewN ?_ _ | refine blk_drew ?_ | refine blk_alloc ?_ _)); exact BK351.out⟩, ⟨by repeat (first | (with_reducible first | exact HB.out | apply below_alloc | apply pw_below_drewN | apply below_drew1 | refine below_set ?_ GE335.out | refine below_set ?_ GE351.out) | exact HB.out)⟩⟩
    case rest =>
      clear HC7
      try clear c1
      try clear c2
      try clear c2b0
      try clear c2b1
      try clear p2
      try clear c3
      try clear c4
      try clear c14
      try clear c16
      try clear c17
      try clear c19
      try clear c24
      try clear c25
      try clear c29
      try clear hcz12_0
      try clear hcz12_1
      try clear hcz12_2
      try clear hcz12_3
      try clear hcz12_4
      try clear hcz12_5
      try clear hcz12_6
      try clear hcz20_0
      try clear hcz20_1
      try clear hcz20_2
      try clear hcz20_3
      try clear hcz20_4
      try clear hcz20_5
      try clear hcz20_6
      try clear hcz26_0
      try clear hcz26_1
      try clear hcz26_2
      try clear hcz26_3
      try clear hcz26_4
      try clear hcz26_5
      try clear hcz26_6
      try clear hcz27_0
      try clear hcz27_1
      try clear hcz27_2
      try clear hcz27_3
      try clear hcz27_4
      try clear hcz27_5
      try clear hcz27_6
      try clear hcz30_0
      try clear hcz30_1
      try clear hcz30_2
      try clear hcz30_3
      try clear hcz30_4
      try clear hcz30_5
      try clear hcz30_6
      try clear hcz31_0
      try clear hcz31_1
      try clear hcz31_2
      try clear hcz31_3
      try clear hcz31_4
      try clear hcz31_5
      try clear hcz31_6
      try clear hfz12_0
      try clear hfz12_1
      try clear hfz12_2
      try clear hfz12_3
      try clear hfz12_4
      try clear hfz12_5
      try clear hfz12_6
      try clear hfz20_0
      try clear hfz20_1
      try clear hfz20_2
      try clear hfz20_3
      try clear hfz20_4
      try clear hfz20_5
      try clear hfz20_6
      try clear hfz26_0
      try clear hfz26_1
      try clear hfz26_2
      try clear hfz26_3
      try clear hfz26_4
      try clear hfz26_5
      try clear hfz26_6
      try clear hfz27_0
      try clear hfz27_1
      try clear hfz27_2
      try clear hfz27_3
      try clear hfz27_4
      try clear hfz27_5
      try clear hfz27_6
      try clear hfz30_0
      try clear hfz30_1
      try clear hfz30_2
      try clear hfz30_3
      try clear hfz30_4
      try clear hfz30_5
      try clear hfz30_6
      try clear hfz31_0
      try clear hfz31_1
      try clear hfz31_2
      try clear hfz31_3
      try clear hfz31_4
      try clear hfz31_5
      try clear hfz31_6
      obtain ⟨kq, x37_6, rfl, HA, HJ6, HO_5, HO_336003, HO_336004, HO_352003, HO_352004, BK335, BK351, HB⟩ := hcut
      cases kq with
      | zero => exact absurd HA.out (by simp [laws_FnExactOldFrom.j0])
      | succ kj6 =>
        have H := HA.out
        clear HA
        simp only [laws_FnExactOldFrom.j0] at H
        by_cases c33 : x37_6 = true
        · subst c33
          have H1 : (some false) = some r := by rw [if_pos rfl] at H; exact H
          clear H
          have H := H1
          clear H1
          obtain rfl := Option.some.inj H
          go_wp2
          go_ret
          exact ⟨by first | rfl | (simp [errW_none, errW_some] <;> rfl) | (simp [*, errW_none, errW_some] <;> rfl), by repeat (first | (with_reducible first | exact HB.out | apply below_alloc | apply pw_below_drewN | apply below_drew1 | refine below_set ?_ GE335.out | refine below_set ?_ GE351.out) | exact HB.out)⟩
        · replace c33 := Bool.eq_false_iff.mpr c33
          subst c33
          have H1 : ((laws_toIntS.f kj6 l0).bind fun t353 => ((laws_eqIntS.f kj6 t336 t353).bind fun t356 => (if t356 = true then ((laws_markIntS.f kj6 t336 1).bind fun bt357 => (if bt357.1 < 0 then (laws_FnExactOldFrom.j1 kj6 l0 t334 true t323 t324 t325 t326 t329 t332 t333 t339 t340 t341 t342 t345 t348 t349) else ((laws_eqOld.f kj6 t339 t340 t341 t342 t345 t348 t349 t323 t324 t325 t326 t329 t332 t333).bind fun t359 => (if t359 = true then (laws_FnExactOldFrom.j1 kj6 l0 t334 (t350 != t334) t323 t324 t325 t326 t329 t332 t333 t339 t340 t341 t342 t345 t348 t349) else (laws_FnExactOldFrom.j1 kj6 l0 t334 true t323 t324 t325 t326 t329 t332 t333 t339 t340 t341 t342 t345 t348 t349))))) else (some false)))) = some r := by rw [if_neg (show ¬ (false = true) by decide)] at H; exact H
          clear H
          have H := H1
          clear H1
          replace H := Option.bind_eq_some_iff.mp H
          obtain ⟨t353, A340, H⟩ := H
          replace H : ((laws_eqIntS.f kj6 t336 t353).bind fun t356 => (if t356 = true then ((laws_markIntS.f kj6 t336 1).bind fun bt357 => (if bt357.1 < 0 then (laws_FnExactOldFrom.j1 kj6 l0 t334 true t323 t324 t325 t326 t329 t332 t333 t339 t340 t341 t342 t345 t348 t349) else ((laws_eqOld.f kj6 t339 t340 t341 t342 t345 t348 t349 t323 t324 t325 t326 t329 t332 t333).bind fun t359 => (if t359 = true then (laws_FnExactOldFrom.j1 kj6 l0 t334 (t350 != t334) t323 t324 t325 t326 t329 t332 t333 t339 t340 t341 t342 t345 t348 t349) else (laws_FnExactOldFrom.j1 kj6 l0 t334 true t323 t324 t325 t326 t329 t332 t333 t339 t340 t341 t342 t345 t348 t349))))) else (some false))) = some r := H
          have A34 := Aside0.mk A340
          clear A340
          replace H := Option.bind_eq_some_iff.mp H
          obtain ⟨t356, A350, H⟩ := H
          replace H : (if t356 = true then ((laws_markIntS.f kj6 t336 1).bind fun bt357 => (if bt357.1 < 0 then (laws_FnExactOldFrom.j1 kj6 l0 t334 true t323 t324 t325 t326 t329 t332 t333 t339 t340 t341 t342 t345 t348 t349) else ((laws_eqOld.f kj6 t339 t340 t341 t342 t345 t348 t349 t323 t324 t325 t326 t329 t332 t333).bind fun t359 => (if t359 = true then (laws_FnExactOldFrom.j1 kj6 l0 t334 (t350 != t334) t323 t324 t325 t326 t329 t332 t333 t339 t340 t341 t342 t345 t348 t349) else (laws_FnExactOldFrom.j1 kj6 l0 t334 true t323 t324 t325 t326 t329 t332 t333 t339 t340 t341 t342 t345 t348 t349))))) else (some false)) = some r := H
          have A35 := Aside0.mk A350
          clear A350
          by_cases c36 : t356 = true
          · subst c36
            have H1 : ((laws_markIntS.f kj6 t336 1).bind fun bt357 => (if bt357.1 < 0 then (laws_FnExactOldFrom.j1 kj6 l0 t334 true t323 t324 t325 t326 t329 t332 t333 t339 t340 t341 t342 t345 t348 t349) else ((laws_eqOld.f kj6 t339 t340 t341 t342 t345 t348 t349 t323 t324 t325 t326 t329 t332 t333).bind fun t359 => (if t359 = true then (laws_FnExactOldFrom.j1 kj6 l0 t334 (t350 != t334) t323 t324 t325 t326 t329 t332 t333 t339 t340 t341 t342 t345 t348 t349) else (laws_FnExactOldFrom.j1 kj6 l0 t334 true t323 t324 t325 t326 t329 t332 t333 t339 t340 t341 t342 t345 t348 t349))))) = some r := by rw [if_pos rfl] at H; exact H
            clear H
            have H := H1
            clear H1
            replace H := Option.bind_eq_some_iff.mp H
            obtain ⟨⟨t357, t358⟩, A370, H⟩ := H
            replace H : (if t357 < 0 then (laws_FnExactOldFrom.j1 kj6 l0 t334 true t323 t324 t325 t326 t329 t332 t333 t339 t340 t341 t342 t345 t348 t349) else ((laws_eqOld.f kj6 t339 t340 t341 t342 t345 t348 t349 t323 t324 t325 t326 t329 t332 t333).bind fun t359 => (if t359 = true then (laws_FnExactOldFrom.j1 kj6 l0 t334 (t350 != t334) t323 t324 t325 t326 t329 t332 t333 t339 t340 t341 t342 t345 t348 t349) else (laws_FnExactOldFrom.j1 kj6 l0 t334 true t323 t324 t325 t326 t329 t332 t333 t339 t340 t341 t342 t345 t348 t349)))) = some r := H
            have A37 := Aside0.mk A370
            clear A370
            have HC38 := Aside0.mk H
            clear H
            go_upto_region 12 with (first | ((with_reducible refine gate_callee (f := 45) rfl ?_); refine goesL_ (some 40) rfl rfl Try.func45 (by kernel_rfl) rfl #[.slice A0 l0.length c0] rfl (by (try simp only [List.map_toArray, List.map_cons, List.map_nil]); first | done | rfl | (simp only [List.length_drop, List.length_take]; rfl)) ?_; (with_reducible refine (laws_toIntS.calls kj6 _ _ l0 t353 _ ?side1 ?side2 A34.out).mono ?_); (case side1 => repeat (first | exact (Kd.C_below HR0.out HB.out) | (with_reducible refine Kd.C_alloc ?_ _) | (with_reducible refine Kd.C_drewN ?_ _) | (with_reducible refine Kd.C_drew ?_))); (case side2 => exact HC0.out); rintro e w39 ⟨v354, rfl, ho0, hb⟩; refine ⟨_, rfl, ?_⟩; have n0_ := Aside0.mk (Kd.R_elder' (by (with_reducible repeat (first | apply Kd.R_alloc | apply Kd.R_drewN | apply Kd.R_drew)); exact HO_5.out) (Kd.R_base ho0) hb); have n1_ := Aside0.mk (Kd.R_elder' (by (with_reducible repeat (first | apply Kd.R_alloc | apply Kd.R_drewN | apply Kd.R_drew)); exact HO_336003.out) (Kd.R_base ho0) hb); have n2_ := Aside0.mk (Kd.R_elder' (by (with_reducible repeat (first | apply Kd.R_alloc | apply Kd.R_drewN | apply Kd.R_drew)); exact HO_336004.out) (Kd.R_base ho0) hb); have n3_ := Aside0.mk (Kd.R_elder' (by (with_reducible repeat (first | apply Kd.R_alloc | apply Kd.R_drewN | apply Kd.R_drew)); exact HO_352003.out) (Kd.R_base ho0) hb); have n4_ := Aside0.mk (Kd.R_elder' (by (with_reducible repeat (first | apply Kd.R_alloc | apply Kd.R_drewN | apply Kd.R_drew)); exact HO_352004.out) (Kd.R_base ho0) hb); have n5_ := Aside0.mk (Kd.R_lower (Kd.R_new' (Kd.R_new' (Kd.R_new' (Kd.R_new' (Kd.R_new' ho0 (Kd.R_lt (by (with_reducible repeat (first | apply Kd.R_alloc | apply Kd.R_drewN | apply Kd.R_drew)); exact HO_5.out))) (Kd.R_lt (by (with_reducible repeat (first | apply Kd.R_alloc | apply Kd.R_drewN | apply Kd.R_drew)); exact HO_336003.out))) (Kd.R_lt (by (with_reducible repeat (first | apply Kd.R_alloc | apply Kd.R_drewN | apply Kd.R_drew)); exact HO_336004.out))) (Kd.R_lt (by (with_reducible repeat (first | apply Kd.R_alloc | apply Kd.R_drewN | apply Kd.R_drew)); exact HO_352003.out))) (Kd.R_lt (by (with_reducible repeat (first | apply Kd.R_alloc | apply Kd.R_drewN | apply Kd.R_drew)); exact HO_352004.out))) (below_size (by repeat (first | (with_reducible first | exact HB.out | apply below_alloc | apply pw_below_drewN | apply below_drew1 | refine below_set ?_ GE335.out | refine below_set ?_ GE351.out) | exact HB.out)))); have n6_ := Aside0.mk (blk_below (g := gb335) (o := .cells #[.int .i64 t323, .bool t324, .int .i64 t325, .slice Ao13 t326.length co13, .slice Ao14 t329.length co14, .bool t332, .bool t333] 26 (0, 0)) (by (with_reducible repeat (first | refine blk_drewN ?_ _ | refine blk_drew ?_ | refine blk_alloc ?_ _)); exact BK335.out) hb); have n7_ := Aside0.mk (blk_below (g := gb351) (o := .cells #[.int .i64 t339, .bool t340, .int .i64 t341, .slice Ao21 t342.length co21, .slice Ao22 t345.length co22, .bool t348, .bool t349] 26 (0, 0)) (by (with_reducible repeat (first | refine blk_drewN ?_ _ | refine blk_drew ?_ | refine blk_alloc ?_ _)); exact BK351.out) hb); have n8_ := Aside0.mk (below_step (by repeat (first | (with_reducible first | exact HB.out | apply below_alloc | apply pw_below_drewN | apply below_drew1 | refine below_set ?_ GE335.out | refine below_set ?_ GE351.out) | exact HB.out)) hb); clear HO_5; clear HO_336003; clear HO_336004; clear HO_352003; clear HO_352004; clear BK335; clear BK351; clear HB; have HO_5 := n0_; have HO_336003 := n1_; have HO_336004 := n2_; have HO_352003 := n3_; have HO_352004 := n4_; have HO355 := n5_; have BK335 := n6_; have BK351 := n7_; have HB := n8_; clear n0_ n1_ n2_ n3_ n4_ n5_ n6_ n7_ n8_; (try clear hb); (try clear hb2); (try clear hk); (try clear hi); (try clear ho0); obtain ⟨Ao40, co40, eo40⟩ := Kd.R_slice HO355.out; subst eo40) | ((with_reducible refine gate_callee (f := 41) rfl ?_); refine goesL_ (some 41) rfl rfl Try.func41 (by kernel_rfl) rfl #[.slice Ao16 t336.length co16, .slice Ao40 t353.length co40] rfl (by (try simp only [List.map_toArray, List.map_cons, List.map_nil]); first | done | rfl | (simp only [List.length_drop, List.length_take]; rfl)) ?_; (with_reducible refine (laws_eqIntS.calls kj6 _ _ t336 _ _ t353 true _ ?side1 ?side2 ?side3 ?side4 A35.out).mono ?_); (case side1 => repeat (first | exact (Kd.R_reads' HO_5.out).2.2 | (with_reducible refine Kd.C_alloc ?_ _) | (with_reducible refine Kd.C_drewN ?_ _) | (with_reducible refine Kd.C_drew ?_))); (case side2 => exact (Kd.R_reads' HO_5.out).2.1); (case side3 => repeat (first | exact (Kd.R_reads' HO355.out).2.2 | (with_reducible refine Kd.C_alloc ?_ _) | (with_reducible refine Kd.C_drewN ?_ _) | (with_reducible refine Kd.C_drew ?_))); (case side4 => exact (Kd.R_reads' HO355.out).2.1); rintro e w' ⟨rfl, ⟨nd, rfl⟩⟩; refine ⟨_, rfl, ?_⟩) | ((with_reducible refine gate_callee (f := 43) rfl ?_); refine goesL_ (some 45) rfl rfl Try.func43 (by kernel_rfl) rfl #[.slice Ao16 t336.length co16, .int .i64 1] rfl (by (try simp only [List.map_toArray, List.map_cons, List.map_nil]); first | done | rfl | (simp only [List.length_drop, List.length_take]; rfl)) ?_; (with_reducible refine (laws_markIntS.calls kj6 (fun k_ => some k_ = (.slice Ao16 t336.length co16 : Value).ownBlock) (.slice Ao16 t336.length co16) t336 1 t357 t358 w _ ?side1 ?side2 A37.out).mono ?_); (case side1 => repeat (first | (with_reducible first | exact HB.out | apply below_alloc | apply pw_below_drewN | apply below_drew1 | refine below_set ?_ GE335.out | refine below_set ?_ GE351.out) | exact HB.out)); (case side2 => exact Kd.R_tight rfl HO_5.out); rintro e w41 ⟨rfl, hy0, hb, hkp⟩; refine ⟨_, rfl, ?_⟩; have n0_ := Aside0.mk (Kd.R_reok rfl hy0 (fun k_ e_ => HO_5.out.1 k_ e_)); have n1_ := Aside0.mk (Kd.R_mono (ok' := fun k_ => some k_ ≠ (.slice Ao16 t336.length co16 : Value).ownBlock ∧ some k_ ≠ (.slice Ao14 t329.length co14 : Value).ownBlock ∧ some k_ ≠ (.slice Ao21 t342.length co21 : Value).ownBlock ∧ some k_ ≠ (.slice Ao22 t345.length co22 : Value).ownBlock ∧ some k_ ≠ (.slice Ao40 t353.length co40 : Value).ownBlock) (Kd.R_keptB (HO_336003.out) hkp (fun k_ hk_ hs_ => (hk_.1.1) hs_)) (fun k_ hk_ => ⟨hk_.1.1.1, hk_.1.1.2.1, hk_.1.1.2.2.1, hk_.1.1.2.2.2, hk_.1.2⟩)); have n2_ := Aside0.mk (Kd.R_mono (ok' := fun k_ => some k_ ≠ (.slice Ao16 t336.length co16 : Value).ownBlock ∧ some k_ ≠ (.slice Ao13 t326.length co13 : Value).ownBlock ∧ some k_ ≠ (.slice Ao21 t342.length co21 : Value).ownBlock ∧ some k_ ≠ (.slice Ao22 t345.length co22 : Value).ownBlock ∧ some k_ ≠ (.slice Ao40 t353.length co40 : Value).ownBlock) (Kd.R_keptB (HO_336004.out) hkp (fun k_ hk_ hs_ => (hk_.1.1) hs_)) (fun k_ hk_ => ⟨hk_.1.1.1, hk_.1.1.2.1, hk_.1.1.2.2.1, hk_.1.1.2.2.2, hk_.1.2⟩)); have n3_ := Aside0.mk (Kd.R_mono (ok' := fun k_ => some k_ ≠ (.slice Ao16 t336.length co16 : Value).ownBlock ∧ some k_ ≠ (.slice Ao13 t326.length co13 : Value).ownBlock ∧ some k_ ≠ (.slice Ao14 t329.length co14 : Value).ownBlock ∧ some k_ ≠ (.slice Ao22 t345.length co22 : Value).ownBlock ∧ some k_ ≠ (.slice Ao40 t353.length co40 : Value).ownBlock) (Kd.R_keptB (HO_352003.out) hkp (fun k_ hk_ hs_ => (hk_.1.1) hs_)) (fun k_ hk_ => ⟨hk_.1.1.1, hk_.1.1.2.1, hk_.1.1.2.2.1, hk_.1.1.2.2.2, hk_.1.2⟩)); have n4_ := Aside0.mk (Kd.R_mono (ok' := fun k_ => some k_ ≠ (.slice Ao16 t336.length co16 : Value).ownBlock ∧ some k_ ≠ (.slice Ao13 t326.length co13 : Value).ownBlock ∧ some k_ ≠ (.slice Ao14 t329.length co14 : Value).ownBlock ∧ some k_ ≠ (.slice Ao21 t342.length co21 : Value).ownBlock ∧ some k_ ≠ (.slice Ao40 t353.length co40 : Value).ownBlock) (Kd.R_keptB (HO_352004.out) hkp (fun k_ hk_ hs_ => (hk_.1.1) hs_)) (fun k_ hk_ => ⟨hk_.1.1.1, hk_.1.1.2.1, hk_.1.1.2.2.1, hk_.1.1.2.2.2, hk_.1.2⟩)); have n5_ := Aside0.mk (blk_kept (by (with_reducible repeat (first | refine blk_drewN ?_ _ | refine blk_drew ?_ | refine blk_alloc ?_ _)); exact BK335.out) hkp (fun hs_ => (fun e_ => (Kd.R_ne HO_5.out BK335.out (by decide)) e_) hs_)); have n6_ := Aside0.mk (blk_kept (by (with_reducible repeat (first | refine blk_drewN ?_ _ | refine blk_drew ?_ | refine blk_alloc ?_ _)); exact BK351.out) hkp (fun hs_ => (fun e_ => (Kd.R_ne HO_5.out BK351.out (by decide)) e_) hs_)); have n7_ := Aside0.mk (Kd.R_mono (ok' := fun k_ => some k_ ≠ (.slice Ao16 t336.length co16 : Value).ownBlock ∧ some k_ ≠ (.slice Ao13 t326.length co13 : Value).ownBlock ∧ some k_ ≠ (.slice Ao14 t329.length co14 : Value).ownBlock ∧ some k_ ≠ (.slice Ao21 t342.length co21 : Value).ownBlock ∧ some k_ ≠ (.slice Ao22 t345.length co22 : Value).ownBlock) (Kd.R_keptB (HO355.out) hkp (fun k_ hk_ hs_ => (hk_.1.1.1.1.2) hs_)) (fun k_ hk_ => ⟨hk_.1.1.1.1.1.2, hk_.1.1.1.1.2, hk_.1.1.1.2, hk_.1.1.2, hk_.1.2⟩)); have n8_ := Aside0.mk (hb); clear HO_5; clear HO_336003; clear HO_336004; clear HO_352003; clear HO_352004; clear BK335; clear BK351; clear HO355; clear HB; have HO_5 := n0_; have HO_336003 := n1_; have HO_336004 := n2_; have HO_352003 := n3_; have HO_352004 := n4_; have BK335 := n5_; have BK351 := n6_; have HO355 := n7_; have HB := n8_; clear n0_ n1_ n2_ n3_ n4_ n5_ n6_ n7_ n8_; (try clear hb); (try clear hkp); (try clear hy0)))
            (try simp only [Act.put, List.setIfInBounds_toArray, List.set_cons_zero, List.set_cons_succ])
            go_cut [58] (fun v58 wc => ∃ (kq : Nat) (x58_37 : Bool), v58 = .bool x58_37 ∧ Aside0 (laws_FnExactOldFrom.j1 kq l0 t334 x58_37 t323 t324 t325 t326 t329 t332 t333 t339 t340 t341 t342 t345 t348 t349 = some r) ∧ Aside0 (kq ≤ kj6) ∧ Aside0 (Kd.R (Kd.int .i64) 3 wc w.heap.size (fun k_ => some k_ ≠ ((.slice Ao14 t329.length co14) : Value).ownBlock ∧ some k_ ≠ ((.slice Ao21 t342.length co21) : Value).ownBlock ∧ some k_ ≠ ((.slice Ao22 t345.length co22) : Value).ownBlock) (.slice Ao13 t326.length co13) t326) ∧ Aside0 (Kd.R (Kd.int .i64) 3 wc w.heap.size (fun k_ => some k_ ≠ ((.slice Ao13 t326.length co13) : Value).ownBlock ∧ some k_ ≠ ((.slice Ao21 t342.length co21) : Value).ownBlock ∧ some k_ ≠ ((.slice Ao22 t345.length co22) : Value).ownBlock) (.slice Ao14 t329.length co14) t329) ∧ Aside0 (Kd.R (Kd.int .i64) 3 wc w.heap.size (fun k_ => some k_ ≠ ((.slice Ao13 t326.length co13) : Value).ownBlock ∧ some k_ ≠ ((.slice Ao14 t329.length co14) : Value).ownBlock ∧ some k_ ≠ ((.slice Ao22 t345.length co22) : Value).ownBlock) (.slice Ao21 t342.length co21) t342) ∧ Aside0 (Kd.R (Kd.int .i64) 3 wc w.heap.size (fun k_ => some k_ ≠ ((.slice Ao13 t326.length co13) : Value).ownBlock ∧ some k_ ≠ ((.slice Ao14 t329.length co14) : Value).ownBlock ∧ some k_ ≠ ((.slice Ao21 t342.length co21) : Value).ownBlock) (.slice Ao22 t345.length co22) t345) ∧ Aside0 (wc.heap[gb335]? = some (.cells #[.int .i64 t323, .bool t324, .int .i64 t325, (.slice Ao13 t326.length co13), (.slice Ao14 t329.length co14), .bool t332, .bool t333] 26 (0, 0))) ∧ Aside0 (wc.heap[gb351]? = some (.cells #[.int .i64 t339, .bool t340, .int .i64 t341, (.slice Ao21 t342.length co21), (.slice Ao22 t345.length co22), .bool t348, .bool t349] 26 (0, 0))) ∧ Aside0 (Below w.heap.size w wc))
            case first =>
              have H := HC38.out
              clear HC38
              by_cases c42 : t357 < 0
              · rw [if_pos c42] at H
                have c42b0 : decide (t357 < 0) = true := decide_eq_true c42
                clear c42
                (first | rw [c42b0] | (simp only [i64_w, i32_w]; rw [c42b0]) | skip)
                have H' := Aside0.mk H
                clear H
                go_wp2
                go_meet
                case rel => exact ⟨_, (true), (by first | rfl | (simp; done) | (simp [*]; done)), H', ⟨by have := HJ6.out; first | omega | exact Nat.le_refl _⟩, ⟨by (with_reducible repeat (first | apply Kd.R_alloc | apply Kd.R_drewN | apply Kd.R_drew)); exact Kd.R_mono HO_336003.out (fun _ hk => ⟨hk.2.1, ⟨hk.2.2.1, hk.2.2.2.1⟩⟩)⟩, ⟨by (with_reducible repeat (first | apply Kd.R_alloc | apply Kd.R_drewN | apply Kd.R_drew)); exact Kd.R_mono HO_336004.out (fun _ hk => ⟨hk.2.1, ⟨hk.2.2.1, hk.2.2.2.1⟩⟩)⟩, ⟨by (with_reducible repeat (first | apply Kd.R_alloc | apply Kd.R_drewN | apply Kd.R_drew)); exact Kd.R_mono HO_352003.out (fun _ hk => ⟨hk.2.1, ⟨hk.2.2.1, hk.2.2.2.1⟩⟩)⟩, ⟨by (with_reducible repeat (first | apply Kd.R_alloc | apply Kd.R_drewN | apply Kd.R_drew)); exact Kd.R_mono HO_352004.out (fun _ hk => ⟨hk.2.1, ⟨hk.2.2.1, hk.2.2.2.1⟩⟩)⟩, ⟨by (with_reducible repeat (first | refine blk_drewN ?_ _ | refine blk_drew ?_ | refine blk_alloc ?_ _)); exact BK335.out⟩, ⟨by (with_reducible repeat (first | refine blk_drewN ?_ _ | refine blk_drew ?_ | refine blk_alloc ?_ _)); exact BK351.out⟩, ⟨by repeat (first | (with_reducible first | exact HB.out | apply below_alloc | apply pw_below_drewN | apply below_drew1 | refine below_set ?_ GE335.out | refine below_set ?_ GE351.out) | exact HB.out)⟩⟩
              · rw [if_neg c42] at H
                have c42b0 : decide (t357 < 0) = false := decide_eq_false c42
                clear c42
                (first | rw [c42b0] | (simp only [i64_w, i32_w]; rw [c42b0]) | skip)
                replace H := Option.bind_eq_some_iff.mp H
                obtain ⟨t359, A430, H⟩ := H
                replace H : (if t359 = true then (laws_FnExactOldFrom.j1 kj6 l0 t334 (t350 != t334) t323 t324 t325 t326 t329 t332 t333 t339 t340 t341 t342 t345 t348 t349) else (laws_FnExactOldFrom.j1 kj6 l0 t334 true t323 t324 t325 t326 t329 t332 t333 t339 t340 t341 t342 t345 t348 t349)) = some r := H
                have A43 := Aside0.mk A430
                clear A430
                by_cases c44 : t359 = true
                · subst c44
                  have H1 : (laws_FnExactOldFrom.j1 kj6 l0 t334 (t350 != t334) t323 t324 t325 t326 t329 t332 t333 t339 t340 t341 t342 t345 t348 t349) = some r := by rw [if_pos rfl] at H; exact H
                  clear H
                  have H := H1
                  clear H1
                  have H' := Aside0.mk H
                  clear H
                  have hnb45 := NB351_335.out
                  have hnc45 := NB335_351.out
                  have hcz46_0 : w41.cell? ⟨gb351, 0, none⟩ = some (.int .i64 t339) := (blk_cell BK351.out 0).trans rfl
                  have hcz46_1 : w41.cell? ⟨gb351, 1, none⟩ = some (.bool t340) := (blk_cell BK351.out 1).trans rfl
                  have hcz46_2 : w41.cell? ⟨gb351, 2, none⟩ = some (.int .i64 t341) := (blk_cell BK351.out 2).trans rfl
                  have hcz46_3 : w41.cell? ⟨gb351, 3, none⟩ = some (.slice Ao21 t342.length co21) := (blk_cell BK351.out 3).trans rfl
                  have hcz46_4 : w41.cell? ⟨gb351, 4, none⟩ = some (.slice Ao22 t345.length co22) := (blk_cell BK351.out 4).trans rfl
                  have hcz46_5 : w41.cell? ⟨gb351, 5, none⟩ = some (.bool t348) := (blk_cell BK351.out 5).trans rfl
                  have hcz46_6 : w41.cell? ⟨gb351, 6, none⟩ = some (.bool t349) := (blk_cell BK351.out 6).trans rfl
                  have hfz46_0 := blk_frozen BK351.out 0
                  have hfz46_1 := blk_frozen BK351.out 1
                  have hfz46_2 := blk_frozen BK351.out 2
                  have hfz46_3 := blk_frozen BK351.out 3
                  have hfz46_4 := blk_frozen BK351.out 4
                  have hfz46_5 := blk_frozen BK351.out 5
                  have hfz46_6 := blk_frozen BK351.out 6
                  have hcz47_0 : w41.cell? ⟨gb335, 0, none⟩ = some (.int .i64 t323) := (blk_cell BK335.out 0).trans rfl
                  have hcz47_1 : w41.cell? ⟨gb335, 1, none⟩ = some (.bool t324) := (blk_cell BK335.out 1).trans rfl
                  have hcz47_2 : w41.cell? ⟨gb335, 2, none⟩ = some (.int .i64 t325) := (blk_cell BK335.out 2).trans rfl
                  have hcz47_3 : w41.cell? ⟨gb335, 3, none⟩ = some (.slice Ao13 t326.length co13) := (blk_cell BK335.out 3).trans rfl
                  have hcz47_4 : w41.cell? ⟨gb335, 4, none⟩ = some (.slice Ao14 t329.length co14) := (blk_cell BK335.out 4).trans rfl
                  have hcz47_5 : w41.cell? ⟨gb335, 5, none⟩ = some (.bool t332) := (blk_cell BK335.out 5).trans rfl
                  have hcz47_6 : w41.cell? ⟨gb335, 6, none⟩ = some (.bool t333) := (blk_cell BK335.out 6).trans rfl
                  have hfz47_0 := blk_frozen BK335.out 0
                  have hfz47_1 := blk_frozen BK335.out 1
                  have hfz47_2 := blk_frozen BK335.out 2
                  have hfz47_3 := blk_frozen BK335.out 3
                  have hfz47_4 := blk_frozen BK335.out 4
                  have hfz47_5 := blk_frozen BK335.out 5
                  have hfz47_6 := blk_frozen BK335.out 6
                  go_wp2_with (first | (go_at_call 35; (with_reducible refine (laws_eqOld.calls kj6 t339 t340 t341 _ _ t342 _ _ t345 t348 t349 t323 t324 t325 _ _ t326 _ _ t329 t332 t333 true _ ?side1 ?side2 ?side3 ?side4 ?side5 ?side6 ?side7 ?side8 A43.out).mono ?_); (case side1 => repeat (first | exact (Kd.R_reads' HO_352003.out).2.2 | (with_reducible refine Kd.C_alloc ?_ _) | (with_reducible refine Kd.C_drewN ?_ _) | (with_reducible refine Kd.C_drew ?_))); (case side2 => exact (Kd.R_reads' HO_352003.out).2.1); (case side3 => repeat (first | exact (Kd.R_reads' HO_352004.out).2.2 | (with_reducible refine Kd.C_alloc ?_ _) | (with_reducible refine Kd.C_drewN ?_ _) | (with_reducible refine Kd.C_drew ?_))); (case side4 => exact (Kd.R_reads' HO_352004.out).2.1); (case side5 => repeat (first | exact (Kd.R_reads' HO_336003.out).2.2 | (with_reducible refine Kd.C_alloc ?_ _) | (with_reducible refine Kd.C_drewN ?_ _) | (with_reducible refine Kd.C_drew ?_))); (case side6 => exact (Kd.R_reads' HO_336003.out).2.1); (case side7 => repeat (first | exact (Kd.R_reads' HO_336004.out).2.2 | (with_reducible refine Kd.C_alloc ?_ _) | (with_reducible refine Kd.C_drewN ?_ _) | (with_reducible refine Kd.C_drew ?_))); (case side8 => exact (Kd.R_reads' HO_336004.out).2.1); rintro e w48 ⟨rfl, hb⟩; have n0_ := Aside0.mk (Kd.R_below (by (with_reducible repeat (first | apply Kd.R_alloc | apply Kd.R_drewN | apply Kd.R_drew)); exact HO_5.out) hb); have n1_ := Aside0.mk (Kd.R_below (by (with_reducible repeat (first | apply Kd.R_alloc | apply Kd.R_drewN | apply Kd.R_drew)); exact HO_336003.out) hb); have n2_ := Aside0.mk (Kd.R_below (by (with_reducible repeat (first | apply Kd.R_alloc | apply Kd.R_drewN | apply Kd.R_drew)); exact HO_336004.out) hb); have n3_ := Aside0.mk (Kd.R_below (by (with_reducible repeat (first | apply Kd.R_alloc | apply Kd.R_drewN | apply Kd.R_drew)); exact HO_352003.out) hb); have n4_ := Aside0.mk (Kd.R_below (by (with_reducible repeat (first | apply Kd.R_alloc | apply Kd.R_drewN | apply Kd.R_drew)); exact HO_352004.out) hb); have n5_ := Aside0.mk (Kd.R_below (by (with_reducible repeat (first | apply Kd.R_alloc | apply Kd.R_drewN | apply Kd.R_drew)); exact HO355.out) hb); have n6_ := Aside0.mk (blk_below (g := gb335) (o := .cells #[.int .i64 t323, .bool t324, .int .i64 t325, .slice Ao13 t326.length co13, .slice Ao14 t329.length co14, .bool t332, .bool t333] 26 (0, 0)) (by (with_reducible repeat (first | refine blk_drewN ?_ _ | refine blk_drew ?_ | refine blk_alloc ?_ _)); exact BK335.out) hb); have n7_ := Aside0.mk (blk_below (g := gb351) (o := .cells #[.int .i64 t339, .bool t340, .int .i64 t341, .slice Ao21 t342.length co21, .slice Ao22 t345.length co22, .bool t348, .bool t349] 26 (0, 0)) (by (with_reducible repeat (first | refine blk_drewN ?_ _ | refine blk_drew ?_ | refine blk_alloc ?_ _)); exact BK351.out) hb); have n8_ := Aside0.mk (below_step (by repeat (first | (with_reducible first | exact HB.out | apply below_alloc | apply pw_below_drewN | apply below_drew1 | refine below_set ?_ GE335.out | refine below_set ?_ GE351.out) | exact HB.out)) hb); clear HO_5; clear HO_336003; clear HO_336004; clear HO_352003; clear HO_352004; clear HO355; clear BK335; clear BK351; clear HB; have HO_5 := n0_; have HO_336003 := n1_; have HO_336004 := n2_; have HO_352003 := n3_; have HO_352004 := n4_; have HO355 := n5_; have BK335 := n6_; have BK351 := n7_; have HB := n8_; clear n0_ n1_ n2_ n3_ n4_ n5_ n6_ n7_ n8_; (try clear hb); (try clear hb2); (try clear hk); (try clear hi)))
                  go_meet
                  case rel => exact ⟨_, ((t350 != t334)), (by first | rfl | (simp; done) | (simp [*]; done)), H', ⟨by have := HJ6.out; first | omega | exact Nat.le_refl _⟩, ⟨by (with_reducible repeat (first | apply Kd.R_alloc | apply Kd.R_drewN | apply Kd.R_drew)); exact Kd.R_mono HO_336003.out (fun _ hk => ⟨hk.2.1, ⟨hk.2.2.1, hk.2.2.2.1⟩⟩)⟩, ⟨by (with_reducible repeat (first | apply Kd.R_alloc | apply Kd.R_drewN | apply Kd.R_drew)); exact Kd.R_mono HO_336004.out (fun _ hk => ⟨hk.2.1, ⟨hk.2.2.1, hk.2.2.2.1⟩⟩)⟩, ⟨by (with_reducible repeat (first | apply Kd.R_alloc | apply Kd.R_drewN | apply Kd.R_drew)); exact Kd.R_mono HO_352003.out (fun _ hk => ⟨hk.2.1, ⟨hk.2.2.1, hk.2.2.2.1⟩⟩)⟩, ⟨by (with_reducible repeat (first | apply Kd.R_alloc | apply Kd.R_drewN | apply Kd.R_drew)); exact Kd.R_mono HO_352004.out (fun _ hk => ⟨hk.2.1, ⟨hk.2.2.1, hk.2.2.2.1⟩⟩)⟩, ⟨by (with_reducible repeat (first | refine blk_drewN ?_ _ | refine blk_drew ?_ | refine blk_alloc ?_ _)); exact BK335.out⟩, ⟨by (with_reducible repeat (first | refine blk_drewN ?_ _ | refine blk_drew ?_ | refine blk_alloc ?_ _)); exact BK351.out⟩, ⟨by repeat (first | (with_reducible first | exact HB.out | apply below_alloc | apply pw_below_drewN | apply below_drew1 | refine below_set ?_ GE335.out | refine below_set ?_ GE351.out) | exact HB.out)⟩⟩
                · replace c44 := Bool.eq_false_iff.mpr c44
                  subst c44
                  have H1 : (laws_FnExactOldFrom.j1 kj6 l0 t334 true t323 t324 t325 t326 t329 t332 t333 t339 t340 t341 t342 t345 t348 t349) = some r := by rw [if_neg (show ¬ (false = true) by decide)] at H; exact H
                  clear H
                  have H := H1
                  clear H1
                  have H' := Aside0.mk H
                  clear H
                  have hnb49 := NB351_335.out
                  have hnc49 := NB335_351.out
                  have hcz50_0 : w41.cell? ⟨gb351, 0, none⟩ = some (.int .i64 t339) := (blk_cell BK351.out 0).trans rfl
                  have hcz50_1 : w41.cell? ⟨gb351, 1, none⟩ = some (.bool t340) := (blk_cell BK351.out 1).trans rfl
                  have hcz50_2 : w41.cell? ⟨gb351, 2, none⟩ = some (.int .i64 t341) := (blk_cell BK351.out 2).trans rfl
                  have hcz50_3 : w41.cell? ⟨gb351, 3, none⟩ = some (.slice Ao21 t342.length co21) := (blk_cell BK351.out 3).trans rfl
                  have hcz50_4 : w41.cell? ⟨gb351, 4, none⟩ = some (.slice Ao22 t345.length co22) := (blk_cell BK351.out 4).trans rfl
                  have hcz50_5 : w41.cell? ⟨gb351, 5, none⟩ = some (.bool t348) := (blk_cell BK351.out 5).trans rfl
                  have hcz50_6 : w41.cell? ⟨gb351, 6, none⟩ = some (.bool t349) := (blk_cell BK351.out 6).trans rfl
                  have hfz50_0 := blk_frozen BK351.out 0
                  have hfz50_1 := blk_frozen BK351.out 1
                  have hfz50_2 := blk_frozen BK351.out 2
                  have hfz50_3 := blk_frozen BK351.out 3
                  have hfz50_4 := blk_frozen BK351.out 4
                  have hfz50_5 := blk_frozen BK351.out 5
                  have hfz50_6 := blk_frozen BK351.out 6
                  have hcz51_0 : w41.cell? ⟨gb335, 0, none⟩ = some (.int .i64 t323) := (blk_cell BK335.out 0).trans rfl
                  have hcz51_1 : w41.cell? ⟨gb335, 1, none⟩ = some (.bool t324) := (blk_cell BK335.out 1).trans rfl
                  have hcz51_2 : w41.cell? ⟨gb335, 2, none⟩ = some (.int .i64 t325) := (blk_cell BK335.out 2).trans rfl
                  have hcz51_3 : w41.cell? ⟨gb335, 3, none⟩ = some (.slice Ao13 t326.length co13) := (blk_cell BK335.out 3).trans rfl
                  have hcz51_4 : w41.cell? ⟨gb335, 4, none⟩ = some (.slice Ao14 t329.length co14) := (blk_cell BK335.out 4).trans rfl
                  have hcz51_5 : w41.cell? ⟨gb335, 5, none⟩ = some (.bool t332) := (blk_cell BK335.out 5).trans rfl
                  have hcz51_6 : w41.cell? ⟨gb335, 6, none⟩ = some (.bool t333) := (blk_cell BK335.out 6).trans rfl
                  have hfz51_0 := blk_frozen BK335.out 0
                  have hfz51_1 := blk_frozen BK335.out 1
                  have hfz51_2 := blk_frozen BK335.out 2
                  have hfz51_3 := blk_frozen BK335.out 3
                  have hfz51_4 := blk_frozen BK335.out 4
                  have hfz51_5 := blk_frozen BK335.out 5
                  have hfz51_6 := blk_frozen BK335.out 6
                  go_wp2_with (first | (go_at_call 35; (with_reducible refine (laws_eqOld.calls kj6 t339 t340 t341 _ _ t342 _ _ t345 t348 t349 t323 t324 t325 _ _ t326 _ _ t329 t332 t333 false _ ?side1 ?side2 ?side3 ?side4 ?side5 ?side6 ?side7 ?side8 A43.out).mono ?_); (case side1 => repeat (first | exact (Kd.R_reads' HO_352003.out).2.2 | (with_reducible refine Kd.C_alloc ?_ _) | (with_reducible refine Kd.C_drewN ?_ _) | (with_reducible refine Kd.C_drew ?_))); (case side2 => exact (Kd.R_reads' HO_352003.out).2.1); (case side3 => repeat (first | exact (Kd.R_reads' HO_352004.out).2.2 | (with_reducible refine Kd.C_alloc ?_ _) | (with_reducible refine Kd.C_drewN ?_ _) | (with_reducible refine Kd.C_drew ?_))); (case side4 => exact (Kd.R_reads' HO_352004.out).2.1); (case side5 => repeat (first | exact (Kd.R_reads' HO_336003.out).2.2 | (with_reducible refine Kd.C_alloc ?_ _) | (with_reducible refine Kd.C_drewN ?_ _) | (with_reducible refine Kd.C_drew ?_))); (case side6 => exact (Kd.R_reads' HO_336003.out).2.1); (case side7 => repeat (first | exact (Kd.R_reads' HO_336004.out).2.2 | (with_reducible refine Kd.C_alloc ?_ _) | (with_reducible refine Kd.C_drewN ?_ _) | (with_reducible refine Kd.C_drew ?_))); (case side8 => exact (Kd.R_reads' HO_336004.out).2.1); rintro e w52 ⟨rfl, hb⟩; have n0_ := Aside0.mk (Kd.R_below (by (with_reducible repeat (first | apply Kd.R_alloc | apply Kd.R_drewN | apply Kd.R_drew)); exact HO_5.out) hb); have n1_ := Aside0.mk (Kd.R_below (by (with_reducible repeat (first | apply Kd.R_alloc | apply Kd.R_drewN | apply Kd.R_drew)); exact HO_336003.out) hb); have n2_ := Aside0.mk (Kd.R_below (by (with_reducible repeat (first | apply Kd.R_alloc | apply Kd.R_drewN | apply Kd.R_drew)); exact HO_336004.out) hb); have n3_ := Aside0.mk (Kd.R_below (by (with_reducible repeat (first | apply Kd.R_alloc | apply Kd.R_drewN | apply Kd.R_drew)); exact HO_352003.out) hb); have n4_ := Aside0.mk (Kd.R_below (by (with_reducible repeat (first | apply Kd.R_alloc | apply Kd.R_drewN | apply Kd.R_drew)); exact HO_352004.out) hb); have n5_ := Aside0.mk (Kd.R_below (by (with_reducible repeat (first | apply Kd.R_alloc | apply Kd.R_drewN | apply Kd.R_drew)); exact HO355.out) hb); have n6_ := Aside0.mk (blk_below (g := gb335) (o := .cells #[.int .i64 t323, .bool t324, .int .i64 t325, .slice Ao13 t326.length co13, .slice Ao14 t329.length co14, .bool t332, .bool t333] 26 (0, 0)) (by (with_reducible repeat (first | refine blk_drewN ?_ _ | refine blk_drew ?_ | refine blk_alloc ?_ _)); exact BK335.out) hb); have n7_ := Aside0.mk (blk_below (g := gb351) (o := .cells #[.int .i64 t339, .bool t340, .int .i64 t341, .slice Ao21 t342.length co21, .slice Ao22 t345.length co22, .bool t348, .bool t349] 26 (0, 0)) (by (with_reducible repeat (first | refine blk_drewN ?_ _ | refine blk_drew ?_ | refine blk_alloc ?_ _)); exact BK351.out) hb); have n8_ := Aside0.mk (below_step (by repeat (first | (with_reducible first | exact HB.out | apply below_alloc | apply pw_below_drewN | apply below_drew1 | refine below_set ?_ GE335.out | refine below_set ?_ GE351.out) | exact HB.out)) hb); clear HO_5; clear HO_336003; clear HO_336004; clear HO_352003; clear HO_352004; clear HO355; clear BK335; clear BK351; clear HB; have HO_5 := n0_; have HO_336003 := n1_; have HO_336004 := n2_; have HO_352003 := n3_; have HO_352004 := n4_; have HO355 := n5_; have BK335 := n6_; have BK351 := n7_; have HB := n8_; clear n0_ n1_ n2_ n3_ n4_ n5_ n6_ n7_ n8_; (try clear hb); (try clear hb2); (try clear hk); (try clear hi)))
                  go_meet
                  case rel => exact ⟨_, (true), (by first | rfl | (simp; done) | (simp [*]; done)), H', ⟨by have := HJ6.out; first | omega | exact Nat.le_refl _⟩, ⟨by (with_reducible repeat (first | apply Kd.R_alloc | apply Kd.R_drewN | apply Kd.R_drew)); exact Kd.R_mono HO_336003.out (fun _ hk => ⟨hk.2.1, ⟨hk.2.2.1, hk.2.2.2.1⟩⟩)⟩, ⟨by (with_reducible repeat (first | apply Kd.R_alloc | apply Kd.R_drewN | apply Kd.R_drew)); exact Kd.R_mono HO_336004.out (fun _ hk => ⟨hk.2.1, ⟨hk.2.2.1, hk.2.2.2.1⟩⟩)⟩, ⟨by (with_reducible repeat (first | apply Kd.R_alloc | apply Kd.R_drewN | apply Kd.R_drew)); exact Kd.R_mono HO_352003.out (fun _ hk => ⟨hk.2.1, ⟨hk.2.2.1, hk.2.2.2.1⟩⟩)⟩, ⟨by (with_reducible repeat (first | apply Kd.R_alloc | apply Kd.R_drewN | apply Kd.R_drew)); exact Kd.R_mono HO_352004.out (fun _ hk => ⟨hk.2.1, ⟨hk.2.2.1, hk.2.2.2.1⟩⟩)⟩, ⟨by (with_reducible repeat (first | refine blk_drewN ?_ _ | refine blk_drew ?_ | refine blk_alloc ?_ _)); exact BK335.out⟩, ⟨by (with_reducible repeat (first | refine blk_drewN ?_ _ | refine blk_drew ?_ | refine blk_alloc ?_ _)); exact BK351.out⟩, ⟨by repeat (first | (with_reducible first | exact HB.out | apply below_alloc | apply pw_below_drewN | apply below_drew1 | refine below_set ?_ GE335.out | refine below_set ?_ GE351.out) | exact HB.out)⟩⟩
            case rest =>
              clear HC38
              try clear c1
              try clear c2
              try clear c2b0
              try clear c2b1
              try clear p2
              try clear c3
              try clear c4
              try clear c14
              try clear c16
              try clear c17
              try clear c19
              try clear c24
              try clear c25
              try clear c29
              try clear c33
              try clear c35
              try clear c36
              try clear c41
              try clear c42
              try clear c42b0
              try clear c43
              try clear c44
              try clear c45
              try clear c49
              try clear hcz12_0
              try clear hcz12_1
              try clear hcz12_2
              try clear hcz12_3
              try clear hcz12_4
              try clear hcz12_5
              try clear hcz12_6
              try clear hcz20_0
              try clear hcz20_1
              try clear hcz20_2
              try clear hcz20_3
              try clear hcz20_4
              try clear hcz20_5
              try clear hcz20_6
              try clear hcz26_0
              try clear hcz26_1
              try clear hcz26_2
              try clear hcz26_3
              try clear hcz26_4
              try clear hcz26_5
              try clear hcz26_6
              try clear hcz27_0
              try clear hcz27_1
              try clear hcz27_2
              try clear hcz27_3
              try clear hcz27_4
              try clear hcz27_5
              try clear hcz27_6
              try clear hcz30_0
              try clear hcz30_1
              try clear hcz30_2
              try clear hcz30_3
              try clear hcz30_4
              try clear hcz30_5
              try clear hcz30_6
              try clear hcz31_0
              try clear hcz31_1
              try clear hcz31_2
              try clear hcz31_3
              try clear hcz31_4
              try clear hcz31_5
              try clear hcz31_6
              try clear hcz46_0
              try clear hcz46_1
              try clear hcz46_2
              try clear hcz46_3
              try clear hcz46_4
              try clear hcz46_5
              try clear hcz46_6
              try clear hcz47_0
              try clear hcz47_1
              try clear hcz47_2
              try clear hcz47_3
              try clear hcz47_4
              try clear hcz47_5
              try clear hcz47_6
              try clear hcz50_0
              try clear hcz50_1
              try clear hcz50_2
              try clear hcz50_3
              try clear hcz50_4
              try clear hcz50_5
              try clear hcz50_6
              try clear hcz51_0
              try clear hcz51_1
              try clear hcz51_2
              try clear hcz51_3
              try clear hcz51_4
              try clear hcz51_5
              try clear hcz51_6
              try clear hfz12_0
              try clear hfz12_1
              try clear hfz12_2
              try clear hfz12_3
              try clear hfz12_4
              try clear hfz12_5
              try clear hfz12_6
              try clear hfz20_0
              try clear hfz20_1
              try clear hfz20_2
              try clear hfz20_3
              try clear hfz20_4
              try clear hfz20_5
              try clear hfz20_6
              try clear hfz26_0
              try clear hfz26_1
              try clear hfz26_2
              try clear hfz26_3
              try clear hfz26_4
              try clear hfz26_5
              try clear hfz26_6
              try clear hfz27_0
              try clear hfz27_1
              try clear hfz27_2
              try clear hfz27_3
              try clear hfz27_4
              try clear hfz27_5
              try clear hfz27_6
              try clear hfz30_0
              try clear hfz30_1
              try clear hfz30_2
              try clear hfz30_3
              try clear hfz30_4
              try clear hfz30_5
              try clear hfz30_6
              try clear hfz31_0
              try clear hfz31_1
              try clear hfz31_2
              try clear hfz31_3
              try clear hfz31_4
              try clear hfz31_5
              try clear hfz31_6
              try clear hfz46_0
              try clear hfz46_1
              try clear hfz46_2
              try clear hfz46_3
              try clear hfz46_4
              try clear hfz46_5
              try clear hfz46_6
              try clear hfz47_0
              try clear hfz47_1
              try clear hfz47_2
              try clear hfz47_3
              try clear hfz47_4
              try clear hfz47_5
              try clear hfz47_6
              try clear hfz50_0
              try clear hfz50_1
              try clear hfz50_2
              try clear hfz50_3
              try clear hfz50_4
              try clear hfz50_5
              try clear hfz50_6
              try clear hfz51_0
              try clear hfz51_1
              try clear hfz51_2
              try clear hfz51_3
              try clear hfz51_4
              try clear hfz51_5
              try clear hfz51_6
              try clear p2
              obtain ⟨kq, x58_37, rfl, HA, HJ37, HO_336003, HO_336004, HO_352003, HO_352004, BK335, BK351, HB⟩ := hcut
              cases kq with
              | zero => exact absurd HA.out (by simp [laws_FnExactOldFrom.j1])
              | succ kj37 =>
                have H := HA.out
                clear HA
                simp only [laws_FnExactOldFrom.j1] at H
                by_cases c53 : x58_37 = true
                · subst c53
                  have H1 : (some false) = some r := by rw [if_pos rfl] at H; exact H
                  clear H
                  have H := H1
                  clear H1
                  obtain rfl := Option.some.inj H
                  go_wp2
                  go_ret
                  exact ⟨by first | rfl | (simp [errW_none, errW_some] <;> rfl) | (simp [*, errW_none, errW_some] <;> rfl), by repeat (first | (with_reducible first | exact HB.out | apply below_alloc | apply pw_below_drewN | apply below_drew1 | refine below_set ?_ GE335.out | refine below_set ?_ GE351.out) | exact HB.out)⟩
                · replace c53 := Bool.eq_false_iff.mpr c53
                  subst c53
                  have H1 : ((laws_markOld.f kj37 t339 t340 t341 t342 t345 t348 t349 1).bind fun bt360 => ((laws_heldOld.f kj37 t339 t340 t341 bt360.2.1 bt360.2.2 t348 t349 1).bind fun t363 => (if t363 < 0 then (some false) else (if t363 = bt360.1 then ((laws_toIntS.f kj37 l0).bind fun t364 => ((impl_OldFrom.f kj37 t364).bind fun bt367 => ((laws_eqOld.f kj37 bt367.1 bt367.2.1 bt367.2.2.1 bt367.2.2.2.1 bt367.2.2.2.2.1 bt367.2.2.2.2.2.1 bt367.2.2.2.2.2.2.1 t323 t324 t325 t326 t329 t332 t333).bind fun t380 => (if t380 = true then (laws_FnExactOldFrom.j2 kj37 bt360.1 (bt367.2.2.2.2.2.2.2 != t334) t339 t340 t341 bt360.2.1 bt360.2.2 t348 t349) else (laws_FnExactOldFrom.j2 kj37 bt360.1 true t339 t340 t341 bt360.2.1 bt360.2.2 t348 t349))))) else (some false))))) = some r := by rw [if_neg (show ¬ (false = true) by decide)] at H; exact H
                  clear H
                  have H := H1
                  clear H1
                  replace H := Option.bind_eq_some_iff.mp H
                  obtain ⟨⟨t360, t361, t362⟩, A540, H⟩ := H
                  replace H : ((laws_heldOld.f kj37 t339 t340 t341 t361 t362 t348 t349 1).bind fun t363 => (if t363 < 0 then (some false) else (if t363 = t360 then ((laws_toIntS.f kj37 l0).bind fun t364 => ((impl_OldFrom.f kj37 t364).bind fun bt367 => ((laws_eqOld.f kj37 bt367.1 bt367.2.1 bt367.2.2.1 bt367.2.2.2.1 bt367.2.2.2.2.1 bt367.2.2.2.2.2.1 bt367.2.2.2.2.2.2.1 t323 t324 t325 t326 t329 t332 t333).bind fun t380 => (if t380 = true then (laws_FnExactOldFrom.j2 kj37 t360 (bt367.2.2.2.2.2.2.2 != t334) t339 t340 t341 t361 t362 t348 t349) else (laws_FnExactOldFrom.j2 kj37 t360 true t339 t340 t341 t361 t362 t348 t349))))) else (some false)))) = some r := H
                  have A54 := Aside0.mk A540
                  clear A540
                  replace H := Option.bind_eq_some_iff.mp H
                  obtain ⟨t363, A550, H⟩ := H
                  replace H : (if t363 < 0 then (some false) else (if t363 = t360 then ((laws_toIntS.f kj37 l0).bind fun t364 => ((impl_OldFrom.f kj37 t364).bind fun bt367 => ((laws_eqOld.f kj37 bt367.1 bt367.2.1 bt367.2.2.1 bt367.2.2.2.1 bt367.2.2.2.2.1 bt367.2.2.2.2.2.1 bt367.2.2.2.2.2.2.1 t323 t324 t325 t326 t329 t332 t333).bind fun t380 => (if t380 = true then (laws_FnExactOldFrom.j2 kj37 t360 (bt367.2.2.2.2.2.2.2 != t334) t339 t340 t341 t361 t362 t348 t349) else (laws_FnExactOldFrom.j2 kj37 t360 true t339 t340 t341 t361 t362 t348 t349))))) else (some false))) = some r := H
                  have A55 := Aside0.mk A550
                  clear A550
                  by_cases c56 : t363 < 0
                  · rw [if_pos c56] at H
                    have c56b0 : decide (t363 < 0) = true := decide_eq_true c56
                    clear c56
                    obtain rfl := Option.some.inj H
                    have hnb57 := NB351_335.out
                    have hnc57 := NB335_351.out
                    have hcz58_0 : wc.cell? ⟨gb351, 0, none⟩ = some (.int .i64 t339) := (blk_cell BK351.out 0).trans rfl
                    have hcz58_1 : wc.cell? ⟨gb351, 1, none⟩ = some (.bool t340) := (blk_cell BK351.out 1).trans rfl
                    have hcz58_2 : wc.cell? ⟨gb351, 2, none⟩ = some (.int .i64 t341) := (blk_cell BK351.out 2).trans rfl
                    have hcz58_3 : wc.cell? ⟨gb351, 3, none⟩ = some (.slice Ao21 t342.length co21) := (blk_cell BK351.out 3).trans rfl
                    have hcz58_4 : wc.cell? ⟨gb351, 4, none⟩ = some (.slice Ao22 t345.length co22) := (blk_cell BK351.out 4).trans rfl
                    have hcz58_5 : wc.cell? ⟨gb351, 5, none⟩ = some (.bool t348) := (blk_cell BK351.out 5).trans rfl
                    have hcz58_6 : wc.cell? ⟨gb351, 6, none⟩ = some (.bool t349) := (blk_cell BK351.out 6).trans rfl
                    have hfz58_0 := blk_frozen BK351.out 0
                    have hfz58_1 := blk_frozen BK351.out 1
                    have hfz58_2 := blk_frozen BK351.out 2
                    have hfz58_3 := blk_frozen BK351.out 3
                    have hfz58_4 := blk_frozen BK351.out 4
                    have hfz58_5 := blk_frozen BK351.out 5
                    have hfz58_6 := blk_frozen BK351.out 6
                    go_wp2_with (first | ((with_reducible refine gate_callee (f := 42) rfl ?_); refine goesL_ (some 61) rfl rfl Try.func42 (by kernel_rfl) rfl #[.agg #[.int .i64 t339, .bool t340, .int .i64 t341, .slice Ao21 t342.length co21, .slice Ao22 t345.length co22, .bool t348, .bool t349], .int .i64 1] rfl (by (try simp only [List.map_toArray, List.map_cons, List.map_nil]); first | done | rfl | (simp only [List.length_drop, List.length_take]; rfl)) ?_; (with_reducible refine (laws_markOld.calls kj37 t339 t340 t341 (fun k_ => some k_ = (.slice Ao21 t342.length co21 : Value).ownBlock) (.slice Ao21 t342.length co21) t342 (fun k_ => some k_ = (.slice Ao22 t345.length co22 : Value).ownBlock) (.slice Ao22 t345.length co22) t345 t348 t349 1 t360 t361 t362 w _ ?side1 ?side2 ?side3 ?side4 ?side5 A54.out).mono ?_); (case side1 => repeat (first | (with_reducible first | exact HB.out | apply below_alloc | apply pw_below_drewN | apply below_drew1 | refine below_set ?_ GE335.out | refine below_set ?_ GE351.out) | exact HB.out)); (case side2 => exact Kd.R_tight rfl HO_352003.out); (case side3 => exact fun k_ e_ => (HO_352003.out.1 k_ e_.symm).2.2); (case side4 => exact Kd.R_tight rfl HO_352004.out); (case side5 => exact fun k_ e_ => (HO_352004.out.1 k_ e_.symm).2.2); rintro e w59 ⟨rfl, hy0, hy1, hb, hkp⟩; refine ⟨_, rfl, ?_⟩; have n0_ := Aside0.mk (Kd.R_mono (ok' := fun k_ => some k_ ≠ (.slice Ao14 t329.length co14 : Value).ownBlock ∧ some k_ ≠ (.slice Ao21 t342.length co21 : Value).ownBlock ∧ some k_ ≠ (.slice Ao22 t345.length co22 : Value).ownBlock) (Kd.R_keptB (HO_336003.out) hkp (fun k_ hk_ hs_ => Or.elim hs_ (fun e_ => (hk_.2.1) e_) (fun e_ => (hk_.2.2) e_))) (fun k_ hk_ => ⟨hk_.1.1, hk_.1.2.1, hk_.1.2.2⟩)); have n1_ := Aside0.mk (Kd.R_mono (ok' := fun k_ => some k_ ≠ (.slice Ao13 t326.length co13 : Value).ownBlock ∧ some k_ ≠ (.slice Ao21 t342.length co21 : Value).ownBlock ∧ some k_ ≠ (.slice Ao22 t345.length co22 : Value).ownBlock) (Kd.R_keptB (HO_336004.out) hkp (fun k_ hk_ hs_ => Or.elim hs_ (fun e_ => (hk_.2.1) e_) (fun e_ => (hk_.2.2) e_))) (fun k_ hk_ => ⟨hk_.1.1, hk_.1.2.1, hk_.1.2.2⟩)); have n2_ := Aside0.mk (Kd.R_reok rfl hy0 (fun k_ e_ => HO_352003.out.1 k_ e_)); have n3_ := Aside0.mk (Kd.R_reok rfl hy1 (fun k_ e_ => HO_352004.out.1 k_ e_)); have n4_ := Aside0.mk (blk_kept (by (with_reducible repeat (first | refine blk_drewN ?_ _ | refine blk_drew ?_ | refine blk_alloc ?_ _)); exact BK335.out) hkp (fun hs_ => Or.elim hs_ (fun e_ => (fun e_ => (Kd.R_ne HO_352003.out BK335.out (by decide)) e_) e_) (fun e_ => (fun e_ => (Kd.R_ne HO_352004.out BK335.out (by decide)) e_) e_))); have n5_ := Aside0.mk (blk_kept (by (with_reducible repeat (first | refine blk_drewN ?_ _ | refine blk_drew ?_ | refine blk_alloc ?_ _)); exact BK351.out) hkp (fun hs_ => Or.elim hs_ (fun e_ => (fun e_ => (Kd.R_ne HO_352003.out BK351.out (by decide)) e_) e_) (fun e_ => (fun e_ => (Kd.R_ne HO_352004.out BK351.out (by decide)) e_) e_))); have n6_ := Aside0.mk (hb); clear HO_336003; clear HO_336004; clear HO_352003; clear HO_352004; clear BK335; clear BK351; clear HB; have HO_336003 := n0_; have HO_336004 := n1_; have HO_352003 := n2_; have HO_352004 := n3_; have BK335 := n4_; have BK351 := n5_; have HB := n6_; clear n0_ n1_ n2_ n3_ n4_ n5_ n6_; (try clear hb); (try clear hkp); (try clear hy0); (try clear hy1); have hcz60_0 : w59.cell? ⟨gb351, 0, none⟩ = some (.int .i64 t339) := (blk_cell BK351.out 0).trans rfl; have hcz60_1 : w59.cell? ⟨gb351, 1, none⟩ = some (.bool t340) := (blk_cell BK351.out 1).trans rfl; have hcz60_2 : w59.cell? ⟨gb351, 2, none⟩ = some (.int .i64 t341) := (blk_cell BK351.out 2).trans rfl; have hcz60_3 : w59.cell? ⟨gb351, 3, none⟩ = some (.slice Ao21 t342.length co21) := (blk_cell BK351.out 3).trans rfl; have hcz60_4 : w59.cell? ⟨gb351, 4, none⟩ = some (.slice Ao22 t345.length co22) := (blk_cell BK351.out 4).trans rfl; have hcz60_5 : w59.cell? ⟨gb351, 5, none⟩ = some (.bool t348) := (blk_cell BK351.out 5).trans rfl; have hcz60_6 : w59.cell? ⟨gb351, 6, none⟩ = some (.bool t349) := (blk_cell BK351.out 6).trans rfl; have hfz60_0 := blk_frozen BK351.out 0; have hfz60_1 := blk_frozen BK351.out 1; have hfz60_2 := blk_frozen BK351.out 2; have hfz60_3 := blk_frozen BK351.out 3; have hfz60_4 := blk_frozen BK351.out 4; have hfz60_5 := blk_frozen BK351.out 5; have hfz60_6 := blk_frozen BK351.out 6) | ((with_reducible refine gate_callee (f := 46) rfl ?_); refine goesL_ (some 64) rfl rfl Try.func46 (by kernel_rfl) rfl #[.agg #[.int .i64 t339, .bool t340, .int .i64 t341, .slice Ao21 t361.length co21, .slice Ao22 t362.length co22, .bool t348, .bool t349], .int .i64 1] rfl (by (try simp only [List.map_toArray, List.map_cons, List.map_nil]); first | done | (rw [show t361.length = t342.length from (Kd.R_reads' HO_352003.out).1.symm, show t362.length = t345.length from (Kd.R_reads' HO_352004.out).1.symm] <;> rfl) | rfl | (simp only [List.length_drop, List.length_take]; rfl)) ?_; (with_reducible refine (laws_heldOld.calls kj37 t339 t340 t341 _ _ t361 _ _ t362 t348 t349 1 t363 _ ?side1 ?side2 ?side3 ?side4 A55.out).mono ?_); (case side1 => repeat (first | exact (Kd.R_reads' HO_352003.out).2.2 | (with_reducible refine Kd.C_alloc ?_ _) | (with_reducible refine Kd.C_drewN ?_ _) | (with_reducible refine Kd.C_drew ?_))); (case side2 => rw [show t361.length = t342.length from (Kd.R_reads' HO_352003.out).1.symm]; exact (Kd.R_reads' HO_352003.out).2.1); (case side3 => repeat (first | exact (Kd.R_reads' HO_352004.out).2.2 | (with_reducible refine Kd.C_alloc ?_ _) | (with_reducible refine Kd.C_drewN ?_ _) | (with_reducible refine Kd.C_drew ?_))); (case side4 => rw [show t362.length = t345.length from (Kd.R_reads' HO_352004.out).1.symm]; exact (Kd.R_reads' HO_352004.out).2.1); rintro e w61 ⟨rfl, hb⟩; refine ⟨_, rfl, ?_⟩; have n0_ := Aside0.mk (Kd.R_below (by (with_reducible repeat (first | apply Kd.R_alloc | apply Kd.R_drewN | apply Kd.R_drew)); exact HO_336003.out) hb); have n1_ := Aside0.mk (Kd.R_below (by (with_reducible repeat (first | apply Kd.R_alloc | apply Kd.R_drewN | apply Kd.R_drew)); exact HO_336004.out) hb); have n2_ := Aside0.mk (Kd.R_below (by (with_reducible repeat (first | apply Kd.R_alloc | apply Kd.R_drewN | apply Kd.R_drew)); exact HO_352003.out) hb); have n3_ := Aside0.mk (Kd.R_below (by (with_reducible repeat (first | apply Kd.R_alloc | apply Kd.R_drewN | apply Kd.R_drew)); exact HO_352004.out) hb); have n4_ := Aside0.mk (blk_below (g := gb335) (o := .cells #[.int .i64 t323, .bool t324, .int .i64 t325, .slice Ao13 t326.length co13, .slice Ao14 t329.length co14, .bool t332, .bool t333] 26 (0, 0)) (by (with_reducible repeat (first | refine blk_drewN ?_ _ | refine blk_drew ?_ | refine blk_alloc ?_ _)); exact BK335.out) hb); have n5_ := Aside0.mk (blk_below (g := gb351) (o := .cells #[.int .i64 t339, .bool t340, .int .i64 t341, .slice Ao21 t342.length co21, .slice Ao22 t345.length co22, .bool t348, .bool t349] 26 (0, 0)) (by (with_reducible repeat (first | refine blk_drewN ?_ _ | refine blk_drew ?_ | refine blk_alloc ?_ _)); exact BK351.out) hb); have n6_ := Aside0.mk (below_step (by repeat (first | (with_reducible first | exact HB.out | apply below_alloc | apply pw_below_drewN | apply below_drew1 | refine below_set ?_ GE335.out | refine below_set ?_ GE351.out) | exact HB.out)) hb); clear HO_336003; clear HO_336004; clear HO_352003; clear HO_352004; clear BK335; clear BK351; clear HB; have HO_336003 := n0_; have HO_336004 := n1_; have HO_352003 := n2_; have HO_352004 := n3_; have BK335 := n4_; have BK351 := n5_; have HB := n6_; clear n0_ n1_ n2_ n3_ n4_ n5_ n6_; (try clear hb); (try clear hb2); (try clear hk); (try clear hi)))
                    go_ret
                    exact ⟨by first | rfl | (simp [errW_none, errW_some] <;> rfl) | (simp [*, errW_none, errW_some] <;> rfl), by repeat (first | (with_reducible first | exact HB.out | apply below_alloc | apply pw_below_drewN | apply below_drew1 | refine below_set ?_ GE335.out | refine below_set ?_ GE351.out) | exact HB.out)⟩
                  · rw [if_neg c56] at H
                    have c56b0 : decide (t363 < 0) = false := decide_eq_false c56
                    clear c56
                    by_cases c62 : t363 = t360
                    · rw [if_pos c62] at H
                      have c62b0 : (t363 == t360) = true := beq_iff_eq.mpr c62
                      have c62b1 : (t363 != t360) = false := bne_eq_false_iff_eq.mpr c62
                      clear c62
                      replace H := Option.bind_eq_some_iff.mp H
                      obtain ⟨t364, A630, H⟩ := H
                      replace H : ((impl_OldFrom.f kj37 t364).bind fun bt367 => ((laws_eqOld.f kj37 bt367.1 bt367.2.1 bt367.2.2.1 bt367.2.2.2.1 bt367.2.2.2.2.1 bt367.2.2.2.2.2.1 bt367.2.2.2.2.2.2.1 t323 t324 t325 t326 t329 t332 t333).bind fun t380 => (if t380 = true then (laws_FnExactOldFrom.j2 kj37 t360 (bt367.2.2.2.2.2.2.2 != t334) t339 t340 t341 t361 t362 t348 t349) else (laws_FnExactOldFrom.j2 kj37 t360 true t339 t340 t341 t361 t362 t348 t349)))) = some r := H
                      have A63 := Aside0.mk A630
                      clear A630
                      replace H := Option.bind_eq_some_iff.mp H
                      obtain ⟨⟨t367, t368, t369, t370, t373, t376, t377, t378⟩, A640, H⟩ := H
                      replace H : ((laws_eqOld.f kj37 t367 t368 t369 t370 t373 t376 t377 t323 t324 t325 t326 t329 t332 t333).bind fun t380 => (if t380 = true then (laws_FnExactOldFrom.j2 kj37 t360 (t378 != t334) t339 t340 t341 t361 t362 t348 t349) else (laws_FnExactOldFrom.j2 kj37 t360 true t339 t340 t341 t361 t362 t348 t349))) = some r := H
                      have A64 := Aside0.mk A640
                      clear A640
                      have HC65 := Aside0.mk H
                      clear H
                      have hnb66 := NB351_335.out
                      have hnc66 := NB335_351.out
                      have hcz67_0 : wc.cell? ⟨gb351, 0, none⟩ = some (.int .i64 t339) := (blk_cell BK351.out 0).trans rfl
                      have hcz67_1 : wc.cell? ⟨gb351, 1, none⟩ = some (.bool t340) := (blk_cell BK351.out 1).trans rfl
                      have hcz67_2 : wc.cell? ⟨gb351, 2, none⟩ = some (.int .i64 t341) := (blk_cell BK351.out 2).trans rfl
                      have hcz67_3 : wc.cell? ⟨gb351, 3, none⟩ = some (.slice Ao21 t342.length co21) := (blk_cell BK351.out 3).trans rfl
                      have hcz67_4 : wc.cell? ⟨gb351, 4, none⟩ = some (.slice Ao22 t345.length co22) := (blk_cell BK351.out 4).trans rfl
                      have hcz67_5 : wc.cell? ⟨gb351, 5, none⟩ = some (.bool t348) := (blk_cell BK351.out 5).trans rfl
                      have hcz67_6 : wc.cell? ⟨gb351, 6, none⟩ = some (.bool t349) := (blk_cell BK351.out 6).trans rfl
                      have hfz67_0 := blk_frozen BK351.out 0
                      have hfz67_1 := blk_frozen BK351.out 1
                      have hfz67_2 := blk_frozen BK351.out 2
                      have hfz67_3 := blk_frozen BK351.out 3
                      have hfz67_4 := blk_frozen BK351.out 4
                      have hfz67_5 := blk_frozen BK351.out 5
                      have hfz67_6 := blk_frozen BK351.out 6
                      go_upto_region 23 with (first | ((with_reducible refine gate_callee (f := 42) rfl ?_); refine goesL_ (some 61) rfl rfl Try.func42 (by kernel_rfl) rfl #[.agg #[.int .i64 t339, .bool t340, .int .i64 t341, .slice Ao21 t342.length co21, .slice Ao22 t345.length co22, .bool t348, .bool t349], .int .i64 1] rfl (by (try simp only [List.map_toArray, List.map_cons, List.map_nil]); first | done | rfl | (simp only [List.length_drop, List.length_take]; rfl)) ?_; (with_reducible refine (laws_markOld.calls kj37 t339 t340 t341 (fun k_ => some k_ = (.slice Ao21 t342.length co21 : Value).ownBlock) (.slice Ao21 t342.length co21) t342 (fun k_ => some k_ = (.slice Ao22 t345.length co22 : Value).ownBlock) (.slice Ao22 t345.length co22) t345 t348 t349 1 t360 t361 t362 w _ ?side1 ?side2 ?side3 ?side4 ?side5 A54.out).mono ?_); (case side1 => repeat (first | (with_reducible first | exact HB.out | apply below_alloc | apply pw_below_drewN | apply below_drew1 | refine below_set ?_ GE335.out | refine below_set ?_ GE351.out) | exact HB.out)); (case side2 => exact Kd.R_tight rfl HO_352003.out); (case side3 => exact fun k_ e_ => (HO_352003.out.1 k_ e_.symm).2.2); (case side4 => exact Kd.R_tight rfl HO_352004.out); (case side5 => exact fun k_ e_ => (HO_352004.out.1 k_ e_.symm).2.2); rintro e w68 ⟨rfl, hy0, hy1, hb, hkp⟩; refine ⟨_, rfl, ?_⟩; have n0_ := Aside0.mk (Kd.R_mono (ok' := fun k_ => some k_ ≠ (.slice Ao14 t329.length co14 : Value).ownBlock ∧ some k_ ≠ (.slice Ao21 t342.length co21 : Value).ownBlock ∧ some k_ ≠ (.slice Ao22 t345.length co22 : Value).ownBlock) (Kd.R_keptB (HO_336003.out) hkp (fun k_ hk_ hs_ => Or.elim hs_ (fun e_ => (hk_.2.1) e_) (fun e_ => (hk_.2.2) e_))) (fun k_ hk_ => ⟨hk_.1.1, hk_.1.2.1, hk_.1.2.2⟩)); have n1_ := Aside0.mk (Kd.R_mono (ok' := fun k_ => some k_ ≠ (.slice Ao13 t326.length co13 : Value).ownBlock ∧ some k_ ≠ (.slice Ao21 t342.length co21 : Value).ownBlock ∧ some k_ ≠ (.slice Ao22 t345.length co22 : Value).ownBlock) (Kd.R_keptB (HO_336004.out) hkp (fun k_ hk_ hs_ => Or.elim hs_ (fun e_ => (hk_.2.1) e_) (fun e_ => (hk_.2.2) e_))) (fun k_ hk_ => ⟨hk_.1.1, hk_.1.2.1, hk_.1.2.2⟩)); have n2_ := Aside0.mk (Kd.R_reok rfl hy0 (fun k_ e_ => HO_352003.out.1 k_ e_)); have n3_ := Aside0.mk (Kd.R_reok rfl hy1 (fun k_ e_ => HO_352004.out.1 k_ e_)); have n4_ := Aside0.mk (blk_kept (by (with_reducible repeat (first | refine blk_drewN ?_ _ | refine blk_drew ?_ | refine blk_alloc ?_ _)); exact BK335.out) hkp (fun hs_ => Or.elim hs_ (fun e_ => (fun e_ => (Kd.R_ne HO_352003.out BK335.out (by decide)) e_) e_) (fun e_ => (fun e_ => (Kd.R_ne HO_352004.out BK335.out (by decide)) e_) e_))); have n5_ := Aside0.mk (blk_kept (by (with_reducible repeat (first | refine blk_drewN ?_ _ | refine blk_drew ?_ | refine blk_alloc ?_ _)); exact BK351.out) hkp (fun hs_ => Or.elim hs_ (fun e_ => (fun e_ => (Kd.R_ne HO_352003.out BK351.out (by decide)) e_) e_) (fun e_ => (fun e_ => (Kd.R_ne HO_352004.out BK351.out (by decide)) e_) e_))); have n6_ := Aside0.mk (hb); clear HO_336003; clear HO_336004; clear HO_352003; clear HO_352004; clear BK335; clear BK351; clear HB; have HO_336003 := n0_; have HO_336004 := n1_; have HO_352003 := n2_; have HO_352004 := n3_; have BK335 := n4_; have BK351 := n5_; have HB := n6_; clear n0_ n1_ n2_ n3_ n4_ n5_ n6_; (try clear hb); (try clear hkp); (try clear hy0); (try clear hy1); have hcz69_0 : w68.cell? ⟨gb351, 0, none⟩ = some (.int .i64 t339) := (blk_cell BK351.out 0).trans rfl; have hcz69_1 : w68.cell? ⟨gb351, 1, none⟩ = some (.bool t340) := (blk_cell BK351.out 1).trans rfl; have hcz69_2 : w68.cell? ⟨gb351, 2, none⟩ = some (.int .i64 t341) := (blk_cell BK351.out 2).trans rfl; have hcz69_3 : w68.cell? ⟨gb351, 3, none⟩ = some (.slice Ao21 t342.length co21) := (blk_cell BK351.out 3).trans rfl; have hcz69_4 : w68.cell? ⟨gb351, 4, none⟩ = some (.slice Ao22 t345.length co22) := (blk_cell BK351.out 4).trans rfl; have hcz69_5 : w68.cell? ⟨gb351, 5, none⟩ = some (.bool t348) := (blk_cell BK351.out 5).trans rfl; have hcz69_6 : w68.cell? ⟨gb351, 6, none⟩ = some (.bool t349) := (blk_cell BK351.out 6).trans rfl; have hfz69_0 := blk_frozen BK351.out 0; have hfz69_1 := blk_frozen BK351.out 1; have hfz69_2 := blk_frozen BK351.out 2; have hfz69_3 := blk_frozen BK351.out 3; have hfz69_4 := blk_frozen BK351.out 4; have hfz69_5 := blk_frozen BK351.out 5; have hfz69_6 := blk_frozen BK351.out 6) | ((with_reducible refine gate_callee (f := 46) rfl ?_); refine goesL_ (some 64) rfl rfl Try.func46 (by kernel_rfl) rfl #[.agg #[.int .i64 t339, .bool t340, .int .i64 t341, .slice Ao21 t361.length co21, .slice Ao22 t362.length co22, .bool t348, .bool t349], .int .i64 1] rfl (by (try simp only [List.map_toArray, List.map_cons, List.map_nil]); first | done | (rw [show t361.length = t342.length from (Kd.R_reads' HO_352003.out).1.symm, show t362.length = t345.length from (Kd.R_reads' HO_352004.out).1.symm] <;> rfl) | rfl | (simp only [List.length_drop, List.length_take]; rfl)) ?_; (with_reducible refine (laws_heldOld.calls kj37 t339 t340 t341 _ _ t361 _ _ t362 t348 t349 1 t363 _ ?side1 ?side2 ?side3 ?side4 A55.out).mono ?_); (case side1 => repeat (first | exact (Kd.R_reads' HO_352003.out).2.2 | (with_reducible refine Kd.C_alloc ?_ _) | (with_reducible refine Kd.C_drewN ?_ _) | (with_reducible refine Kd.C_drew ?_))); (case side2 => rw [show t361.length = t342.length from (Kd.R_reads' HO_352003.out).1.symm]; exact (Kd.R_reads' HO_352003.out).2.1); (case side3 => repeat (first | exact (Kd.R_reads' HO_352004.out).2.2 | (with_reducible refine Kd.C_alloc ?_ _) | (with_reducible refine Kd.C_drewN ?_ _) | (with_reducible refine Kd.C_drew ?_))); (case side4 => rw [show t362.length = t345.length from (Kd.R_reads' HO_352004.out).1.symm]; exact (Kd.R_reads' HO_352004.out).2.1); rintro e w70 ⟨rfl, hb⟩; refine ⟨_, rfl, ?_⟩; have n0_ := Aside0.mk (Kd.R_below (by (with_reducible repeat (first | apply Kd.R_alloc | apply Kd.R_drewN | apply Kd.R_drew)); exact HO_336003.out) hb); have n1_ := Aside0.mk (Kd.R_below (by (with_reducible repeat (first | apply Kd.R_alloc | apply Kd.R_drewN | apply Kd.R_drew)); exact HO_336004.out) hb); have n2_ := Aside0.mk (Kd.R_below (by (with_reducible repeat (first | apply Kd.R_alloc | apply Kd.R_drewN | apply Kd.R_drew)); exact HO_352003.out) hb); have n3_ := Aside0.mk (Kd.R_below (by (with_reducible repeat (first | apply Kd.R_alloc | apply Kd.R_drewN | apply Kd.R_drew)); exact HO_352004.out) hb); have n4_ := Aside0.mk (blk_below (g := gb335) (o := .cells #[.int .i64 t323, .bool t324, .int .i64 t325, .slice Ao13 t326.length co13, .slice Ao14 t329.length co14, .bool t332, .bool t333] 26 (0, 0)) (by (with_reducible repeat (first | refine blk_drewN ?_ _ | refine blk_drew ?_ | refine blk_alloc ?_ _)); exact BK335.out) hb); have n5_ := Aside0.mk (blk_below (g := gb351) (o := .cells #[.int .i64 t339, .bool t340, .int .i64 t341, .slice Ao21 t342.length co21, .slice Ao22 t345.length co22, .bool t348, .bool t349] 26 (0, 0)) (by (with_reducible repeat (first | refine blk_drewN ?_ _ | refine blk_drew ?_ | refine blk_alloc ?_ _)); exact BK351.out) hb); have n6_ := Aside0.mk (below_step (by repeat (first | (with_reducible first | exact HB.out | apply below_alloc | apply pw_below_drewN | apply below_drew1 | refine below_set ?_ GE335.out | refine below_set ?_ GE351.out) | exact HB.out)) hb); clear HO_336003; clear HO_336004; clear HO_352003; clear HO_352004; clear BK335; clear BK351; clear HB; have HO_336003 := n0_; have HO_336004 := n1_; have HO_352003 := n2_; have HO_352004 := n3_; have BK335 := n4_; have BK351 := n5_; have HB := n6_; clear n0_ n1_ n2_ n3_ n4_ n5_ n6_; (try clear hb); (try clear hb2); (try clear hk); (try clear hi)) | ((with_reducible refine gate_callee (f := 45) rfl ?_); refine goesL_ (some 72) rfl rfl Try.func45 (by kernel_rfl) rfl #[.slice A0 l0.length c0] rfl (by (try simp only [List.map_toArray, List.map_cons, List.map_nil]); first | done | rfl | (simp only [List.length_drop, List.length_take]; rfl)) ?_; (with_reducible refine (laws_toIntS.calls kj37 _ _ l0 t364 _ ?side1 ?side2 A63.out).mono ?_); (case side1 => repeat (first | exact (Kd.C_below HR0.out HB.out) | (with_reducible refine Kd.C_alloc ?_ _) | (with_reducible refine Kd.C_drewN ?_ _) | (with_reducible refine Kd.C_drew ?_))); (case side2 => exact HC0.out); rintro e w71 ⟨v365, rfl, ho0, hb⟩; refine ⟨_, rfl, ?_⟩; have n0_ := Aside0.mk (Kd.R_elder' (by (with_reducible repeat (first | apply Kd.R_alloc | apply Kd.R_drewN | apply Kd.R_drew)); exact HO_336003.out) (Kd.R_base ho0) hb); have n1_ := Aside0.mk (Kd.R_elder' (by (with_reducible repeat (first | apply Kd.R_alloc | apply Kd.R_drewN | apply Kd.R_drew)); exact HO_336004.out) (Kd.R_base ho0) hb); have n2_ := Aside0.mk (Kd.R_elder' (by (with_reducible repeat (first | apply Kd.R_alloc | apply Kd.R_drewN | apply Kd.R_drew)); exact HO_352003.out) (Kd.R_base ho0) hb); have n3_ := Aside0.mk (Kd.R_elder' (by (with_reducible repeat (first | apply Kd.R_alloc | apply Kd.R_drewN | apply Kd.R_drew)); exact HO_352004.out) (Kd.R_base ho0) hb); have n4_ := Aside0.mk (Kd.R_lower (Kd.R_new' (Kd.R_new' (Kd.R_new' (Kd.R_new' ho0 (Kd.R_lt (by (with_reducible repeat (first | apply Kd.R_alloc | apply Kd.R_drewN | apply Kd.R_drew)); exact HO_336003.out))) (Kd.R_lt (by (with_reducible repeat (first | apply Kd.R_alloc | apply Kd.R_drewN | apply Kd.R_drew)); exact HO_336004.out))) (Kd.R_lt (by (with_reducible repeat (first | apply Kd.R_alloc | apply Kd.R_drewN | apply Kd.R_drew)); exact HO_352003.out))) (Kd.R_lt (by (with_reducible repeat (first | apply Kd.R_alloc | apply Kd.R_drewN | apply Kd.R_drew)); exact HO_352004.out))) (below_size (by repeat (first | (with_reducible first | exact HB.out | apply below_alloc | apply pw_below_drewN | apply below_drew1 | refine below_set ?_ GE335.out | refine below_set ?_ GE351.out) | exact HB.out)))); have n5_ := Aside0.mk (blk_below (g := gb335) (o := .cells #[.int .i64 t323, .bool t324, .int .i64 t325, .slice Ao13 t326.length co13, .slice Ao14 t329.length co14, .bool t332, .bool t333] 26 (0, 0)) (by (with_reducible repeat (first | refine blk_drewN ?_ _ | refine blk_drew ?_ | refine blk_alloc ?_ _)); exact BK335.out) hb); have n6_ := Aside0.mk (blk_below (g := gb351) (o := .cells #[.int .i64 t339, .bool t340, .int .i64 t341, .slice Ao21 t342.length co21, .slice Ao22 t345.length co22, .bool t348, .bool t349] 26 (0, 0)) (by (with_reducible repeat (first | refine blk_drewN ?_ _ | refine blk_drew ?_ | refine blk_alloc ?_ _)); exact BK351.out) hb); have n7_ := Aside0.mk (below_step (by repeat (first | (with_reducible first | exact HB.out | apply below_alloc | apply pw_below_drewN | apply below_drew1 | refine below_set ?_ GE335.out | refine below_set ?_ GE351.out) | exact HB.out)) hb); clear HO_336003; clear HO_336004; clear HO_352003; clear HO_352004; clear BK335; clear BK351; clear HB; have HO_336003 := n0_; have HO_336004 := n1_; have HO_352003 := n2_; have HO_352004 := n3_; have HO366 := n4_; have BK335 := n5_; have BK351 := n6_; have HB := n7_; clear n0_ n1_ n2_ n3_ n4_ n5_ n6_ n7_; (try clear hb); (try clear hb2); (try clear hk); (try clear hi); (try clear ho0); obtain ⟨Ao72, co72, eo72⟩ := Kd.R_slice HO366.out; subst eo72) | ((with_reducible refine gate_callee (f := 16) rfl ?_); refine goesL_ (some 73) rfl rfl Try.func16 (by kernel_rfl) rfl #[.slice Ao72 t364.length co72] rfl (by (try simp only [List.map_toArray, List.map_cons, List.map_nil]); first | done | rfl | (simp only [List.length_drop, List.length_take]; rfl)) ?_; (with_reducible refine (impl_OldFrom.calls kj37 _ _ t364 t367 t368 t369 t370 t373 t376 t377 t378 _ ?side1 ?side2 A64.out).mono ?_); (case side1 => repeat (first | exact (Kd.R_reads' HO366.out).2.2 | (with_reducible refine Kd.C_alloc ?_ _) | (with_reducible refine Kd.C_drewN ?_ _) | (with_reducible refine Kd.C_drew ?_))); (case side2 => exact (Kd.R_reads' HO366.out).2.1); rintro e w73 ⟨v371, v374, rfl, ho0, ho1, hb⟩; refine ⟨_, rfl, ?_⟩; have n0_ := Aside0.mk (Kd.R_mono (Kd.R_told (Kd.R_told (Kd.R_old (by (with_reducible repeat (first | apply Kd.R_alloc | apply Kd.R_drewN | apply Kd.R_drew)); exact HO_336003.out) hb) (Kd.R_base ho0)) (Kd.R_base ho1)) (fun _ h_ => h_.1)); have n1_ := Aside0.mk (Kd.R_mono (Kd.R_told (Kd.R_told (Kd.R_old (by (with_reducible repeat (first | apply Kd.R_alloc | apply Kd.R_drewN | apply Kd.R_drew)); exact HO_336004.out) hb) (Kd.R_base ho0)) (Kd.R_base ho1)) (fun _ h_ => h_.1)); have n2_ := Aside0.mk (Kd.R_mono (Kd.R_told (Kd.R_told (Kd.R_old (by (with_reducible repeat (first | apply Kd.R_alloc | apply Kd.R_drewN | apply Kd.R_drew)); exact HO_352003.out) hb) (Kd.R_base ho0)) (Kd.R_base ho1)) (fun _ h_ => h_.1)); have n3_ := Aside0.mk (Kd.R_mono (Kd.R_told (Kd.R_told (Kd.R_old (by (with_reducible repeat (first | apply Kd.R_alloc | apply Kd.R_drewN | apply Kd.R_drew)); exact HO_352004.out) hb) (Kd.R_base ho0)) (Kd.R_base ho1)) (fun _ h_ => h_.1)); have n4_ := Aside0.mk (Kd.R_mono (Kd.R_told (Kd.R_told (Kd.R_old (by (with_reducible repeat (first | apply Kd.R_alloc | apply Kd.R_drewN | apply Kd.R_drew)); exact HO366.out) hb) (Kd.R_base ho0)) (Kd.R_base ho1)) (fun _ h_ => h_.1)); have n5_ := Aside0.mk (Kd.R_lower (Kd.R_new' (Kd.R_new' (Kd.R_new' (Kd.R_new' (Kd.R_new' ho0 (Kd.R_lt (by (with_reducible repeat (first | apply Kd.R_alloc | apply Kd.R_drewN | apply Kd.R_drew)); exact HO_336003.out))) (Kd.R_lt (by (with_reducible repeat (first | apply Kd.R_alloc | apply Kd.R_drewN | apply Kd.R_drew)); exact HO_336004.out))) (Kd.R_lt (by (with_reducible repeat (first | apply Kd.R_alloc | apply Kd.R_drewN | apply Kd.R_drew)); exact HO_352003.out))) (Kd.R_lt (by (with_reducible repeat (first | apply Kd.R_alloc | apply Kd.R_drewN | apply Kd.R_drew)); exact HO_352004.out))) (Kd.R_lt (by (with_reducible repeat (first | apply Kd.R_alloc | apply Kd.R_drewN | apply Kd.R_drew)); exact HO366.out))) (below_size (by repeat (first | (with_reducible first | exact HB.out | apply below_alloc | apply pw_below_drewN | apply below_drew1 | refine below_set ?_ GE335.out | refine below_set ?_ GE351.out) | exact HB.out)))); have n6_ := Aside0.mk (Kd.R_lower (Kd.R_new' (Kd.R_new' (Kd.R_new' (Kd.R_new' (Kd.R_new' ho1 (Kd.R_lt (by (with_reducible repeat (first | apply Kd.R_alloc | apply Kd.R_drewN | apply Kd.R_drew)); exact HO_336003.out))) (Kd.R_lt (by (with_reducible repeat (first | apply Kd.R_alloc | apply Kd.R_drewN | apply Kd.R_drew)); exact HO_336004.out))) (Kd.R_lt (by (with_reducible repeat (first | apply Kd.R_alloc | apply Kd.R_drewN | apply Kd.R_drew)); exact HO_352003.out))) (Kd.R_lt (by (with_reducible repeat (first | apply Kd.R_alloc | apply Kd.R_drewN | apply Kd.R_drew)); exact HO_352004.out))) (Kd.R_lt (by (with_reducible repeat (first | apply Kd.R_alloc | apply Kd.R_drewN | apply Kd.R_drew)); exact HO366.out))) (below_size (by repeat (first | (with_reducible first | exact HB.out | apply below_alloc | apply pw_below_drewN | apply below_drew1 | refine below_set ?_ GE335.out | refine below_set ?_ GE351.out) | exact HB.out)))); have n7_ := Aside0.mk (blk_below (g := gb335) (o := .cells #[.int .i64 t323, .bool t324, .int .i64 t325, .slice Ao13 t326.length co13, .slice Ao14 t329.length co14, .bool t332, .bool t333] 26 (0, 0)) (by (with_reducible repeat (first | refine blk_drewN ?_ _ | refine blk_drew ?_ | refine blk_alloc ?_ _)); exact BK335.out) hb); have n8_ := Aside0.mk (blk_below (g := gb351) (o := .cells #[.int .i64 t339, .bool t340, .int .i64 t341, .slice Ao21 t342.length co21, .slice Ao22 t345.length co22, .bool t348, .bool t349] 26 (0, 0)) (by (with_reducible repeat (first | refine blk_drewN ?_ _ | refine blk_drew ?_ | refine blk_alloc ?_ _)); exact BK351.out) hb); have n9_ := Aside0.mk (below_step (by repeat (first | (with_reducible first | exact HB.out | apply below_alloc | apply pw_below_drewN | apply below_drew1 | refine below_set ?_ GE335.out | refine below_set ?_ GE351.out) | exact HB.out)) hb); clear HO_336003; clear HO_336004; clear HO_352003; clear HO_352004; clear HO366; clear BK335; clear BK351; clear HB; have HO_336003 := n0_; have HO_336004 := n1_; have HO_352003 := n2_; have HO_352004 := n3_; have HO366 := n4_; have HO372 := n5_; have HO375 := n6_; have BK335 := n7_; have BK351 := n8_; have HB := n9_; clear n0_ n1_ n2_ n3_ n4_ n5_ n6_ n7_ n8_ n9_; (try clear hb); (try clear hb2); (try clear hk); (try clear hi); (try clear ho0); (try clear ho1)) | ((with_reducible refine gate_dst (N := 11) rfl ?_); refine box_event ?hg (N := 11) ?hd (cs := #[.int .i64 0, .bool false, .int .i64 0, .slice none 0 0, .slice none 0 0, .bool false, .bool false]) (t := 26) ?hr ?_; (case hd => rfl); (case hg => rfl); (case hr => first | (go_simp; done) | (go_simp; rfl)); intro gb379 hg w74 hbox hb; have n0_ := Aside0.mk (Kd.R_below (by (with_reducible repeat (first | apply Kd.R_alloc | apply Kd.R_drewN | apply Kd.R_drew)); exact HO_336003.out) hb); have n1_ := Aside0.mk (Kd.R_below (by (with_reducible repeat (first | apply Kd.R_alloc | apply Kd.R_drewN | apply Kd.R_drew)); exact HO_336004.out) hb); have n2_ := Aside0.mk (Kd.R_below (by (with_reducible repeat (first | apply Kd.R_alloc | apply Kd.R_drewN | apply Kd.R_drew)); exact HO_352003.out) hb); have n3_ := Aside0.mk (Kd.R_below (by (with_reducible repeat (first | apply Kd.R_alloc | apply Kd.R_drewN | apply Kd.R_drew)); exact HO_352004.out) hb); have n4_ := Aside0.mk (Kd.R_below (by (with_reducible repeat (first | apply Kd.R_alloc | apply Kd.R_drewN | apply Kd.R_drew)); exact HO366.out) hb); have n5_ := Aside0.mk (Kd.R_below (by (with_reducible repeat (first | apply Kd.R_alloc | apply Kd.R_drewN | apply Kd.R_drew)); exact HO372.out) hb); have n6_ := Aside0.mk (Kd.R_below (by (with_reducible repeat (first | apply Kd.R_alloc | apply Kd.R_drewN | apply Kd.R_drew)); exact HO375.out) hb); have n7_ := Aside0.mk (blk_below (g := gb335) (o := .cells #[.int .i64 t323, .bool t324, .int .i64 t325, .slice Ao13 t326.length co13, .slice Ao14 t329.length co14, .bool t332, .bool t333] 26 (0, 0)) (by (with_reducible repeat (first | refine blk_drewN ?_ _ | refine blk_drew ?_ | refine blk_alloc ?_ _)); exact BK335.out) hb); have n8_ := Aside0.mk (blk_below (g := gb351) (o := .cells #[.int .i64 t339, .bool t340, .int .i64 t341, .slice Ao21 t342.length co21, .slice Ao22 t345.length co22, .bool t348, .bool t349] 26 (0, 0)) (by (with_reducible repeat (first | refine blk_drewN ?_ _ | refine blk_drew ?_ | refine blk_alloc ?_ _)); exact BK351.out) hb); have n9_ := Aside0.mk (below_step (by repeat (first | (with_reducible first | exact HB.out | apply below_alloc | apply pw_below_drewN | apply below_drew1 | refine below_set ?_ GE335.out | refine below_set ?_ GE351.out) | exact HB.out)) hb); have n10_ := Aside0.mk (hbox); have n11_ := Aside0.mk ((by rw [hg]; exact (below_size (by repeat (first | (with_reducible first | exact HB.out | apply below_alloc | apply pw_below_drewN | apply below_drew1 | refine below_set ?_ GE335.out | refine below_set ?_ GE351.out) | exact HB.out))) : w.heap.size ≤ gb379)); have n12_ := Aside0.mk ((by rw [hg]; exact (below_size (by repeat (first | (with_reducible first | exact HB.out | apply below_alloc | apply pw_below_drewN | apply below_drew1 | refine below_set ?_ GE335.out | refine below_set ?_ GE351.out) | exact HB.out))) : w.heap.size ≤ gb379)); have n13_ := Aside0.mk ((by rw [hg]; exact Nat.ne_of_lt (blk_lt (g := gb335) (o := .cells #[.int .i64 t323, .bool t324, .int .i64 t325, .slice Ao13 t326.length co13, .slice Ao14 t329.length co14, .bool t332, .bool t333] 26 (0, 0)) (by (with_reducible repeat (first | refine blk_drewN ?_ _ | refine blk_drew ?_ | refine blk_alloc ?_ _)); exact BK335.out)) : gb335 ≠ gb379)); have n14_ := Aside0.mk ((by rw [hg]; exact Nat.ne_of_gt (blk_lt (g := gb335) (o := .cells #[.int .i64 t323, .bool t324, .int .i64 t325, .slice Ao13 t326.length co13, .slice Ao14 t329.length co14, .bool t332, .bool t333] 26 (0, 0)) (by (with_reducible repeat (first | refine blk_drewN ?_ _ | refine blk_drew ?_ | refine blk_alloc ?_ _)); exact BK335.out)) : gb379 ≠ gb335)); have n15_ := Aside0.mk ((by rw [hg]; exact Nat.ne_of_lt (blk_lt (g := gb351) (o := .cells #[.int .i64 t339, .bool t340, .int .i64 t341, .slice Ao21 t342.length co21, .slice Ao22 t345.length co22, .bool t348, .bool t349] 26 (0, 0)) (by (with_reducible repeat (first | refine blk_drewN ?_ _ | refine blk_drew ?_ | refine blk_alloc ?_ _)); exact BK351.out)) : gb351 ≠ gb379)); have n16_ := Aside0.mk ((by rw [hg]; exact Nat.ne_of_gt (blk_lt (g := gb351) (o := .cells #[.int .i64 t339, .bool t340, .int .i64 t341, .slice Ao21 t342.length co21, .slice Ao22 t345.length co22, .bool t348, .bool t349] 26 (0, 0)) (by (with_reducible repeat (first | refine blk_drewN ?_ _ | refine blk_drew ?_ | refine blk_alloc ?_ _)); exact BK351.out)) : gb379 ≠ gb351)); clear HO_336003; clear HO_336004; clear HO_352003; clear HO_352004; clear HO366; clear HO372; clear HO375; clear BK335; clear BK351; clear HB; have HO_336003 := n0_; have HO_336004 := n1_; have HO_352003 := n2_; have HO_352004 := n3_; have HO366 := n4_; have HO372 := n5_; have HO375 := n6_; have BK335 := n7_; have BK351 := n8_; have HB := n9_; have BK379 := n10_; have GW379 := n11_; have GE379 := n12_; have NB335_379 := n13_; have NB379_335 := n14_; have NB351_379 := n15_; have NB379_351 := n16_; clear n0_ n1_ n2_ n3_ n4_ n5_ n6_ n7_ n8_ n9_ n10_ n11_ n12_ n13_ n14_ n15_ n16_; clear hb hbox hg; have hnb75 := NB379_335.out; have hnc75 := NB335_379.out; have hnb76 := NB379_351.out; have hnc76 := NB351_379.out; have hcz77_0 : w74.cell? ⟨gb379, 0, none⟩ = some (.int .i64 0) := (blk_cell BK379.out 0).trans rfl; have hcz77_1 : w74.cell? ⟨gb379, 1, none⟩ = some (.bool false) := (blk_cell BK379.out 1).trans rfl; have hcz77_2 : w74.cell? ⟨gb379, 2, none⟩ = some (.int .i64 0) := (blk_cell BK379.out 2).trans rfl; have hcz77_3 : w74.cell? ⟨gb379, 3, none⟩ = some (.slice none 0 0) := (blk_cell BK379.out 3).trans rfl; have hcz77_4 : w74.cell? ⟨gb379, 4, none⟩ = some (.slice none 0 0) := (blk_cell BK379.out 4).trans rfl; have hcz77_5 : w74.cell? ⟨gb379, 5, none⟩ = some (.bool false) := (blk_cell BK379.out 5).trans rfl; have hcz77_6 : w74.cell? ⟨gb379, 6, none⟩ = some (.bool false) := (blk_cell BK379.out 6).trans rfl; have hfz77_0 := blk_frozen BK379.out 0; have hfz77_1 := blk_frozen BK379.out 1; have hfz77_2 := blk_frozen BK379.out 2; have hfz77_3 := blk_frozen BK379.out 3; have hfz77_4 := blk_frozen BK379.out 4; have hfz77_5 := blk_frozen BK379.out 5; have hfz77_6 := blk_frozen BK379.out 6; obtain ⟨Ao78, co78, eo78⟩ := Kd.R_slice HO372.out; subst eo78; obtain ⟨Ao79, co79, eo79⟩ := Kd.R_slice HO375.out; subst eo79))
                      (try simp only [Act.put, List.setIfInBounds_toArray, List.set_cons_zero, List.set_cons_succ])
                      go_cut [84] (fun v84 wc => ∃ (kq : Nat) (x84_64 : Bool), v84 = .bool x84_64 ∧ Aside0 (laws_FnExactOldFrom.j2 kq t360 x84_64 t339 t340 t341 t361 t362 t348 t349 = some r) ∧ Aside0 (kq ≤ kj37) ∧ Aside0 (Kd.R (Kd.int .i64) 3 wc w.heap.size (fun k_ => some k_ ≠ ((.slice Ao14 t329.length co14) : Value).ownBlock ∧ some k_ ≠ ((.slice Ao21 t342.length co21) : Value).ownBlock ∧ some k_ ≠ ((.slice Ao22 t345.length co22) : Value).ownBlock ∧ some k_ ≠ ((.slice Ao78 t370.length co78) : Value).ownBlock ∧ some k_ ≠ ((.slice Ao79 t373.length co79) : Value).ownBlock) (.slice Ao13 t326.length co13) t326) ∧ Aside0 (Kd.R (Kd.int .i64) 3 wc w.heap.size (fun k_ => some k_ ≠ ((.slice Ao13 t326.length co13) : Value).ownBlock ∧ some k_ ≠ ((.slice Ao21 t342.length co21) : Value).ownBlock ∧ some k_ ≠ ((.slice Ao22 t345.length co22) : Value).ownBlock ∧ some k_ ≠ ((.slice Ao78 t370.length co78) : Value).ownBlock ∧ some k_ ≠ ((.slice Ao79 t373.length co79) : Value).ownBlock) (.slice Ao14 t329.length co14) t329) ∧ Aside0 (Kd.R (Kd.int .i64) 3 wc w.heap.size (fun k_ => some k_ ≠ ((.slice Ao13 t326.length co13) : Value).ownBlock ∧ some k_ ≠ ((.slice Ao14 t329.length co14) : Value).ownBlock ∧ some k_ ≠ ((.slice Ao22 t345.length co22) : Value).ownBlock ∧ some k_ ≠ ((.slice Ao78 t370.length co78) : Value).ownBlock ∧ some k_ ≠ ((.slice Ao79 t373.length co79) : Value).ownBlock) (.slice Ao21 t342.length co21) t361) ∧ Aside0 (Kd.R (Kd.int .i64) 3 wc w.heap.size (fun k_ => some k_ ≠ ((.slice Ao13 t326.length co13) : Value).ownBlock ∧ some k_ ≠ ((.slice Ao14 t329.length co14) : Value).ownBlock ∧ some k_ ≠ ((.slice Ao21 t342.length co21) : Value).ownBlock ∧ some k_ ≠ ((.slice Ao78 t370.length co78) : Value).ownBlock ∧ some k_ ≠ ((.slice Ao79 t373.length co79) : Value).ownBlock) (.slice Ao22 t345.length co22) t362) ∧ Aside0 (Kd.R (Kd.int .i64) 3 wc w.heap.size (fun k_ => some k_ ≠ ((.slice Ao13 t326.length co13) : Value).ownBlock ∧ some k_ ≠ ((.slice Ao14 t329.length co14) : Value).ownBlock ∧ some k_ ≠ ((.slice Ao21 t342.length co21) : Value).ownBlock ∧ some k_ ≠ ((.slice Ao22 t345.length co22) : Value).ownBlock ∧ some k_ ≠ ((.slice Ao79 t373.length co79) : Value).ownBlock) (.slice Ao78 t370.length co78) t370) ∧ Aside0 (Kd.R (Kd.int .i64) 3 wc w.heap.size (fun k_ => some k_ ≠ ((.slice Ao13 t326.length co13) : Value).ownBlock ∧ some k_ ≠ ((.slice Ao14 t329.length co14) : Value).ownBlock ∧ some k_ ≠ ((.slice Ao21 t342.length co21) : Value).ownBlock ∧ some k_ ≠ ((.slice Ao22 t345.length co22) : Value).ownBlock ∧ some k_ ≠ ((.slice Ao78 t370.length co78) : Value).ownBlock) (.slice Ao79 t373.length co79) t373) ∧ Aside0 (wc.heap[gb335]? = some (.cells #[.int .i64 t323, .bool t324, .int .i64 t325, (.slice Ao13 t326.length co13), (.slice Ao14 t329.length co14), .bool t332, .bool t333] 26 (0, 0))) ∧ Aside0 (wc.heap[gb351]? = some (.cells #[.int .i64 t339, .bool t340, .int .i64 t341, (.slice Ao21 t342.length co21), (.slice Ao22 t345.length co22), .bool t348, .bool t349] 26 (0, 0))) ∧ Aside0 (wc.heap[gb379]? = some (.cells #[.int .i64 t367, .bool t368, .int .i64 t369, (.slice Ao78 t370.length co78), (.slice Ao79 t373.length co79), .bool t376, .bool t377] 26 (0, 0))) ∧ Aside0 (Below w.heap.size w wc))
                      case first =>
                        have H := HC65.out
                        clear HC65
                        replace H := Option.bind_eq_some_iff.mp H
                        obtain ⟨t380, A800, H⟩ := H
                        replace H : (if t380 = true then (laws_FnExactOldFrom.j2 kj37 t360 (t378 != t334) t339 t340 t341 t361 t362 t348 t349) else (laws_FnExactOldFrom.j2 kj37 t360 true t339 t340 t341 t361 t362 t348 t349)) = some r := H
                        have A80 := Aside0.mk A800
                        clear A800
                        by_cases c81 : t380 = true
                        · subst c81
                          have H1 : (laws_FnExactOldFrom.j2 kj37 t360 (t378 != t334) t339 t340 t341 t361 t362 t348 t349) = some r := by rw [if_pos rfl] at H; exact H
                          clear H
                          have H := H1
                          clear H1
                          have H' := Aside0.mk H
                          clear H
                          have hnb82 := NB379_335.out
                          have hnc82 := NB335_379.out
                          have hnb83 := NB379_351.out
                          have hnc83 := NB351_379.out
                          have hcz84_0 : w74.cell? ⟨gb379, 0, none⟩ = some (.int .i64 0) := (blk_cell BK379.out 0).trans rfl
                          have hcz84_1 : w74.cell? ⟨gb379, 1, none⟩ = some (.bool false) := (blk_cell BK379.out 1).trans rfl
                          have hcz84_2 : w74.cell? ⟨gb379, 2, none⟩ = some (.int .i64 0) := (blk_cell BK379.out 2).trans rfl
                          have hcz84_3 : w74.cell? ⟨gb379, 3, none⟩ = some (.slice none 0 0) := (blk_cell BK379.out 3).trans rfl
                          have hcz84_4 : w74.cell? ⟨gb379, 4, none⟩ = some (.slice none 0 0) := (blk_cell BK379.out 4).trans rfl
                          have hcz84_5 : w74.cell? ⟨gb379, 5, none⟩ = some (.bool false) := (blk_cell BK379.out 5).trans rfl
                          have hcz84_6 : w74.cell? ⟨gb379, 6, none⟩ = some (.bool false) := (blk_cell BK379.out 6).trans rfl
                          have hfz84_0 := blk_frozen BK379.out 0
                          have hfz84_1 := blk_frozen BK379.out 1
                          have hfz84_2 := blk_frozen BK379.out 2
                          have hfz84_3 := blk_frozen BK379.out 3
                          have hfz84_4 := blk_frozen BK379.out 4
                          have hfz84_5 := blk_frozen BK379.out 5
                          have hfz84_6 := blk_frozen BK379.out 6
                          have hnb85 := NB335_351.out
                          have hnc85 := NB351_335.out
                          have hcz86_0 : w74.cell? ⟨gb335, 0, none⟩ = some (.int .i64 t323) := (blk_cell BK335.out 0).trans rfl
                          have hcz86_1 : w74.cell? ⟨gb335, 1, none⟩ = some (.bool t324) := (blk_cell BK335.out 1).trans rfl
                          have hcz86_2 : w74.cell? ⟨gb335, 2, none⟩ = some (.int .i64 t325) := (blk_cell BK335.out 2).trans rfl
                          have hcz86_3 : w74.cell? ⟨gb335, 3, none⟩ = some (.slice Ao13 t326.length co13) := (blk_cell BK335.out 3).trans rfl
                          have hcz86_4 : w74.cell? ⟨gb335, 4, none⟩ = some (.slice Ao14 t329.length co14) := (blk_cell BK335.out 4).trans rfl
                          have hcz86_5 : w74.cell? ⟨gb335, 5, none⟩ = some (.bool t332) := (blk_cell BK335.out 5).trans rfl
                          have hcz86_6 : w74.cell? ⟨gb335, 6, none⟩ = some (.bool t333) := (blk_cell BK335.out 6).trans rfl
                          have hfz86_0 := blk_frozen BK335.out 0
                          have hfz86_1 := blk_frozen BK335.out 1
                          have hfz86_2 := blk_frozen BK335.out 2
                          have hfz86_3 := blk_frozen BK335.out 3
                          have hfz86_4 := blk_frozen BK335.out 4
                          have hfz86_5 := blk_frozen BK335.out 5
                          have hfz86_6 := blk_frozen BK335.out 6
                          go_wp2_with (first | ((with_reducible refine gate_callee (f := 35) rfl ?_); refine goesL_ (some 78) rfl rfl Try.func35 (by kernel_rfl) rfl #[.agg #[.int .i64 t367, .bool t368, .int .i64 t369, .slice Ao78 t370.length co78, .slice Ao79 t373.length co79, .bool t376, .bool t377], .agg #[.int .i64 t323, .bool t324, .int .i64 t325, .slice Ao13 t326.length co13, .slice Ao14 t329.length co14, .bool t332, .bool t333]] rfl (by (try simp only [List.map_toArray, List.map_cons, List.map_nil]); first | done | rfl | (simp only [List.length_drop, List.length_take]; rfl)) ?_; (with_reducible refine (laws_eqOld.calls kj37 t367 t368 t369 _ _ t370 _ _ t373 t376 t377 t323 t324 t325 _ _ t326 _ _ t329 t332 t333 true _ ?side1 ?side2 ?side3 ?side4 ?side5 ?side6 ?side7 ?side8 A80.out).mono ?_); (case side1 => refine (Kd.R_reads' (e := 3) (base := w.heap.size) (ok := fun k_ => (((((some k_ ≠ (.slice Ao79 t373.length co79 : Value).ownBlock ∧ some k_ ≠ (.slice Ao13 t326.length co13 : Value).ownBlock) ∧ some k_ ≠ (.slice Ao14 t329.length co14 : Value).ownBlock) ∧ some k_ ≠ (.slice Ao21 t342.length co21 : Value).ownBlock) ∧ some k_ ≠ (.slice Ao22 t345.length co22 : Value).ownBlock) ∧ some k_ ≠ (.slice Ao72 t364.length co72 : Value).ownBlock)) (n := t370.length) (c := co78) ?_).2.2; exact (by (with_reducible repeat (first | apply Kd.R_alloc | apply Kd.R_drewN | apply Kd.R_drew)); exact (Kd.R_mono (Kd.R_far (p := ⟨gb379, 6, none⟩) (Kd.R_far (p := ⟨gb379, 5, none⟩) (Kd.R_far (p := ⟨gb379, 4, none⟩) (Kd.R_far (p := ⟨gb379, 3, none⟩) (Kd.R_far (p := ⟨gb379, 2, none⟩) (Kd.R_far (p := ⟨gb379, 1, none⟩) (Kd.R_far (p := ⟨gb379, 0, none⟩) (Kd.R_types HO372.out BK379.out (by decide)) (fun _ hk => hk.2) (.int .i64 t367)) (fun _ hk => hk.2) (.bool t368)) (fun _ hk => hk.2) (.int .i64 t369)) (fun _ hk => hk.2) (.slice Ao78 t370.length co78)) (fun _ hk => hk.2) (.slice Ao79 t373.length co79)) (fun _ hk => hk.2) (.bool t376)) (fun _ hk => hk.2) (.bool t377)) (fun _ h_ => h_.1)))); (case side2 => exact (Kd.R_reads' HO372.out).2.1); (case side3 => refine (Kd.R_reads' (e := 3) (base := w.heap.size) (ok := fun k_ => (((((some k_ ≠ (.slice Ao78 t370.length co78 : Value).ownBlock ∧ some k_ ≠ (.slice Ao13 t326.length co13 : Value).ownBlock) ∧ some k_ ≠ (.slice Ao14 t329.length co14 : Value).ownBlock) ∧ some k_ ≠ (.slice Ao21 t342.length co21 : Value).ownBlock) ∧ some k_ ≠ (.slice Ao22 t345.length co22 : Value).ownBlock) ∧ some k_ ≠ (.slice Ao72 t364.length co72 : Value).ownBlock)) (n := t373.length) (c := co79) ?_).2.2; exact (by (with_reducible repeat (first | apply Kd.R_alloc | apply Kd.R_drewN | apply Kd.R_drew)); exact (Kd.R_mono (Kd.R_far (p := ⟨gb379, 6, none⟩) (Kd.R_far (p := ⟨gb379, 5, none⟩) (Kd.R_far (p := ⟨gb379, 4, none⟩) (Kd.R_far (p := ⟨gb379, 3, none⟩) (Kd.R_far (p := ⟨gb379, 2, none⟩) (Kd.R_far (p := ⟨gb379, 1, none⟩) (Kd.R_far (p := ⟨gb379, 0, none⟩) (Kd.R_types HO375.out BK379.out (by decide)) (fun _ hk => hk.2) (.int .i64 t367)) (fun _ hk => hk.2) (.bool t368)) (fun _ hk => hk.2) (.int .i64 t369)) (fun _ hk => hk.2) (.slice Ao78 t370.length co78)) (fun _ hk => hk.2) (.slice Ao79 t373.length co79)) (fun _ hk => hk.2) (.bool t376)) (fun _ hk => hk.2) (.bool t377)) (fun _ h_ => h_.1)))); (case side4 => exact (Kd.R_reads' HO375.out).2.1); (case side5 => refine (Kd.R_reads' (e := 3) (base := w.heap.size) (ok := fun k_ => ((((some k_ ≠ (.slice Ao14 t329.length co14 : Value).ownBlock ∧ (some k_ ≠ (.slice Ao21 t342.length co21 : Value).ownBlock ∧ some k_ ≠ (.slice Ao22 t345.length co22 : Value).ownBlock)) ∧ some k_ ≠ (.slice Ao72 t364.length co72 : Value).ownBlock) ∧ some k_ ≠ (.slice Ao78 t370.length co78 : Value).ownBlock) ∧ some k_ ≠ (.slice Ao79 t373.length co79 : Value).ownBlock)) (n := t326.length) (c := co13) ?_).2.2; exact (by (with_reducible repeat (first | apply Kd.R_alloc | apply Kd.R_drewN | apply Kd.R_drew)); exact (Kd.R_mono (Kd.R_far (p := ⟨gb379, 6, none⟩) (Kd.R_far (p := ⟨gb379, 5, none⟩) (Kd.R_far (p := ⟨gb379, 4, none⟩) (Kd.R_far (p := ⟨gb379, 3, none⟩) (Kd.R_far (p := ⟨gb379, 2, none⟩) (Kd.R_far (p := ⟨gb379, 1, none⟩) (Kd.R_far (p := ⟨gb379, 0, none⟩) (Kd.R_types HO_336003.out BK379.out (by decide)) (fun _ hk => hk.2) (.int .i64 t367)) (fun _ hk => hk.2) (.bool t368)) (fun _ hk => hk.2) (.int .i64 t369)) (fun _ hk => hk.2) (.slice Ao78 t370.length co78)) (fun _ hk => hk.2) (.slice Ao79 t373.length co79)) (fun _ hk => hk.2) (.bool t376)) (fun _ hk => hk.2) (.bool t377)) (fun _ h_ => h_.1)))); (case side6 => exact (Kd.R_reads' HO_336003.out).2.1); (case side7 => refine (Kd.R_reads' (e := 3) (base := w.heap.size) (ok := fun k_ => ((((some k_ ≠ (.slice Ao13 t326.length co13 : Value).ownBlock ∧ (some k_ ≠ (.slice Ao21 t342.length co21 : Value).ownBlock ∧ some k_ ≠ (.slice Ao22 t345.length co22 : Value).ownBlock)) ∧ some k_ ≠ (.slice Ao72 t364.length co72 : Value).ownBlock) ∧ some k_ ≠ (.slice Ao78 t370.length co78 : Value).ownBlock) ∧ some k_ ≠ (.slice Ao79 t373.length co79 : Value).ownBlock)) (n := t329.length) (c := co14) ?_).2.2; exact (by (with_reducible repeat (first | apply Kd.R_alloc | apply Kd.R_drewN | apply Kd.R_drew)); exact (Kd.R_mono (Kd.R_far (p := ⟨gb379, 6, none⟩) (Kd.R_far (p := ⟨gb379, 5, none⟩) (Kd.R_far (p := ⟨gb379, 4, none⟩) (Kd.R_far (p := ⟨gb379, 3, none⟩) (Kd.R_far (p := ⟨gb379, 2, none⟩) (Kd.R_far (p := ⟨gb379, 1, none⟩) (Kd.R_far (p := ⟨gb379, 0, none⟩) (Kd.R_types HO_336004.out BK379.out (by decide)) (fun _ hk => hk.2) (.int .i64 t367)) (fun _ hk => hk.2) (.bool t368)) (fun _ hk => hk.2) (.int .i64 t369)) (fun _ hk => hk.2) (.slice Ao78 t370.length co78)) (fun _ hk => hk.2) (.slice Ao79 t373.length co79)) (fun _ hk => hk.2) (.bool t376)) (fun _ hk => hk.2) (.bool t377)) (fun _ h_ => h_.1)))); (case side8 => exact (Kd.R_reads' HO_336004.out).2.1); rintro e w87 ⟨rfl, hb⟩; refine ⟨_, rfl, ?_⟩; have n0_ := Aside0.mk (Kd.R_below (by (with_reducible repeat (first | apply Kd.R_alloc | apply Kd.R_drewN | apply Kd.R_drew)); exact (Kd.R_mono (Kd.R_far (p := ⟨gb379, 6, none⟩) (Kd.R_far (p := ⟨gb379, 5, none⟩) (Kd.R_far (p := ⟨gb379, 4, none⟩) (Kd.R_far (p := ⟨gb379, 3, none⟩) (Kd.R_far (p := ⟨gb379, 2, none⟩) (Kd.R_far (p := ⟨gb379, 1, none⟩) (Kd.R_far (p := ⟨gb379, 0, none⟩) (Kd.R_types HO_336003.out BK379.out (by decide)) (fun _ hk => hk.2) (.int .i64 t367)) (fun _ hk => hk.2) (.bool t368)) (fun _ hk => hk.2) (.int .i64 t369)) (fun _ hk => hk.2) (.slice Ao78 t370.length co78)) (fun _ hk => hk.2) (.slice Ao79 t373.length co79)) (fun _ hk => hk.2) (.bool t376)) (fun _ hk => hk.2) (.bool t377)) (fun _ h_ => h_.1))) hb); have n1_ := Aside0.mk (Kd.R_below (by (with_reducible repeat (first | apply Kd.R_alloc | apply Kd.R_drewN | apply Kd.R_drew)); exact (Kd.R_mono (Kd.R_far (p := ⟨gb379, 6, none⟩) (Kd.R_far (p := ⟨gb379, 5, none⟩) (Kd.R_far (p := ⟨gb379, 4, none⟩) (Kd.R_far (p := ⟨gb379, 3, none⟩) (Kd.R_far (p := ⟨gb379, 2, none⟩) (Kd.R_far (p := ⟨gb379, 1, none⟩) (Kd.R_far (p := ⟨gb379, 0, none⟩) (Kd.R_types HO_336004.out BK379.out (by decide)) (fun _ hk => hk.2) (.int .i64 t367)) (fun _ hk => hk.2) (.bool t368)) (fun _ hk => hk.2) (.int .i64 t369)) (fun _ hk => hk.2) (.slice Ao78 t370.length co78)) (fun _ hk => hk.2) (.slice Ao79 t373.length co79)) (fun _ hk => hk.2) (.bool t376)) (fun _ hk => hk.2) (.bool t377)) (fun _ h_ => h_.1))) hb); have n2_ := Aside0.mk (Kd.R_below (by (with_reducible repeat (first | apply Kd.R_alloc | apply Kd.R_drewN | apply Kd.R_drew)); exact (Kd.R_mono (Kd.R_far (p := ⟨gb379, 6, none⟩) (Kd.R_far (p := ⟨gb379, 5, none⟩) (Kd.R_far (p := ⟨gb379, 4, none⟩) (Kd.R_far (p := ⟨gb379, 3, none⟩) (Kd.R_far (p := ⟨gb379, 2, none⟩) (Kd.R_far (p := ⟨gb379, 1, none⟩) (Kd.R_far (p := ⟨gb379, 0, none⟩) (Kd.R_types HO_352003.out BK379.out (by decide)) (fun _ hk => hk.2) (.int .i64 t367)) (fun _ hk => hk.2) (.bool t368)) (fun _ hk => hk.2) (.int .i64 t369)) (fun _ hk => hk.2) (.slice Ao78 t370.length co78)) (fun _ hk => hk.2) (.slice Ao79 t373.length co79)) (fun _ hk => hk.2) (.bool t376)) (fun _ hk => hk.2) (.bool t377)) (fun _ h_ => h_.1))) hb); have n3_ := Aside0.mk (Kd.R_below (by (with_reducible repeat (first | apply Kd.R_alloc | apply Kd.R_drewN | apply Kd.R_drew)); exact (Kd.R_mono (Kd.R_far (p := ⟨gb379, 6, none⟩) (Kd.R_far (p := ⟨gb379, 5, none⟩) (Kd.R_far (p := ⟨gb379, 4, none⟩) (Kd.R_far (p := ⟨gb379, 3, none⟩) (Kd.R_far (p := ⟨gb379, 2, none⟩) (Kd.R_far (p := ⟨gb379, 1, none⟩) (Kd.R_far (p := ⟨gb379, 0, none⟩) (Kd.R_types HO_352004.out BK379.out (by decide)) (fun _ hk => hk.2) (.int .i64 t367)) (fun _ hk => hk.2) (.bool t368)) (fun _ hk => hk.2) (.int .i64 t369)) (fun _ hk => hk.2) (.slice Ao78 t370.length co78)) (fun _ hk => hk.2) (.slice Ao79 t373.length co79)) (fun _ hk => hk.2) (.bool t376)) (fun _ hk => hk.2) (.bool t377)) (fun _ h_ => h_.1))) hb); have n4_ := Aside0.mk (Kd.R_below (by (with_reducible repeat (first | apply Kd.R_alloc | apply Kd.R_drewN | apply Kd.R_drew)); exact (Kd.R_mono (Kd.R_far (p := ⟨gb379, 6, none⟩) (Kd.R_far (p := ⟨gb379, 5, none⟩) (Kd.R_far (p := ⟨gb379, 4, none⟩) (Kd.R_far (p := ⟨gb379, 3, none⟩) (Kd.R_far (p := ⟨gb379, 2, none⟩) (Kd.R_far (p := ⟨gb379, 1, none⟩) (Kd.R_far (p := ⟨gb379, 0, none⟩) (Kd.R_types HO366.out BK379.out (by decide)) (fun _ hk => hk.2) (.int .i64 t367)) (fun _ hk => hk.2) (.bool t368)) (fun _ hk => hk.2) (.int .i64 t369)) (fun _ hk => hk.2) (.slice Ao78 t370.length co78)) (fun _ hk => hk.2) (.slice Ao79 t373.length co79)) (fun _ hk => hk.2) (.bool t376)) (fun _ hk => hk.2) (.bool t377)) (fun _ h_ => h_.1))) hb); have n5_ := Aside0.mk (Kd.R_below (by (with_reducible repeat (first | apply Kd.R_alloc | apply Kd.R_drewN | apply Kd.R_drew)); exact (Kd.R_mono (Kd.R_far (p := ⟨gb379, 6, none⟩) (Kd.R_far (p := ⟨gb379, 5, none⟩) (Kd.R_far (p := ⟨gb379, 4, none⟩) (Kd.R_far (p := ⟨gb379, 3, none⟩) (Kd.R_far (p := ⟨gb379, 2, none⟩) (Kd.R_far (p := ⟨gb379, 1, none⟩) (Kd.R_far (p := ⟨gb379, 0, none⟩) (Kd.R_types HO372.out BK379.out (by decide)) (fun _ hk => hk.2) (.int .i64 t367)) (fun _ hk => hk.2) (.bool t368)) (fun _ hk => hk.2) (.int .i64 t369)) (fun _ hk => hk.2) (.slice Ao78 t370.length co78)) (fun _ hk => hk.2) (.slice Ao79 t373.length co79)) (fun _ hk => hk.2) (.bool t376)) (fun _ hk => hk.2) (.bool t377)) (fun _ h_ => h_.1))) hb); have n6_ := Aside0.mk (Kd.R_below (by (with_reducible repeat (first | apply Kd.R_alloc | apply Kd.R_drewN | apply Kd.R_drew)); exact (Kd.R_mono (Kd.R_far (p := ⟨gb379, 6, none⟩) (Kd.R_far (p := ⟨gb379, 5, none⟩) (Kd.R_far (p := ⟨gb379, 4, none⟩) (Kd.R_far (p := ⟨gb379, 3, none⟩) (Kd.R_far (p := ⟨gb379, 2, none⟩) (Kd.R_far (p := ⟨gb379, 1, none⟩) (Kd.R_far (p := ⟨gb379, 0, none⟩) (Kd.R_types HO375.out BK379.out (by decide)) (fun _ hk => hk.2) (.int .i64 t367)) (fun _ hk => hk.2) (.bool t368)) (fun _ hk => hk.2) (.int .i64 t369)) (fun _ hk => hk.2) (.slice Ao78 t370.length co78)) (fun _ hk => hk.2) (.slice Ao79 t373.length co79)) (fun _ hk => hk.2) (.bool t376)) (fun _ hk => hk.2) (.bool t377)) (fun _ h_ => h_.1))) hb); have n7_ := Aside0.mk (blk_below (g := gb335) (o := .cells #[.int .i64 t323, .bool t324, .int .i64 t325, .slice Ao13 t326.length co13, .slice Ao14 t329.length co14, .bool t332, .bool t333] 26 (0, 0)) (by (with_reducible repeat (first | refine blk_drewN ?_ _ | refine blk_drew ?_ | refine blk_alloc ?_ _)); refine blk_far ?_ NB335_379.out _; (with_reducible repeat (first | refine blk_drewN ?_ _ | refine blk_drew ?_ | refine blk_alloc ?_ _)); refine blk_far ?_ NB335_379.out _; (with_reducible repeat (first | refine blk_drewN ?_ _ | refine blk_drew ?_ | refine blk_alloc ?_ _)); refine blk_far ?_ NB335_379.out _; (with_reducible repeat (first | refine blk_drewN ?_ _ | refine blk_drew ?_ | refine blk_alloc ?_ _)); refine blk_far ?_ NB335_379.out _; (with_reducible repeat (first | refine blk_drewN ?_ _ | refine blk_drew ?_ | refine blk_alloc ?_ _)); refine blk_far ?_ NB335_379.out _; (with_reducible repeat (first | refine blk_drewN ?_ _ | refine blk_drew ?_ | refine blk_alloc ?_ _)); refine blk_far ?_ NB335_379.out _; (with_reducible repeat (first | refine blk_drewN ?_ _ | refine blk_drew ?_ | refine blk_alloc ?_ _)); refine blk_far ?_ NB335_379.out _; (with_reducible repeat (first | refine blk_drewN ?_ _ | refine blk_drew ?_ | refine blk_alloc ?_ _)); exact BK335.out) hb); have n8_ := Aside0.mk (blk_below (g := gb351) (o := .cells #[.int .i64 t339, .bool t340, .int .i64 t341, .slice Ao21 t342.length co21, .slice Ao22 t345.length co22, .bool t348, .bool t349] 26 (0, 0)) (by (with_reducible repeat (first | refine blk_drewN ?_ _ | refine blk_drew ?_ | refine blk_alloc ?_ _)); refine blk_far ?_ NB351_379.out _; (with_reducible repeat (first | refine blk_drewN ?_ _ | refine blk_drew ?_ | refine blk_alloc ?_ _)); refine blk_far ?_ NB351_379.out _; (with_reducible repeat (first | refine blk_drewN ?_ _ | refine blk_drew ?_ | refine blk_alloc ?_ _)); refine blk_far ?_ NB351_379.out _; (with_reducible repeat (first | refine blk_drewN ?_ _ | refine blk_drew ?_ | refine blk_alloc ?_ _)); refine blk_far ?_ NB351_379.out _; (with_reducible repeat (first | refine blk_drewN ?_ _ | refine blk_drew ?_ | refine blk_alloc ?_ _)); refine blk_far ?_ NB351_379.out _; (with_reducible repeat (first | refine blk_drewN ?_ _ | refine blk_drew ?_ | refine blk_alloc ?_ _)); refine blk_far ?_ NB351_379.out _; (with_reducible repeat (first | refine blk_drewN ?_ _ | refine blk_drew ?_ | refine blk_alloc ?_ _)); refine blk_far ?_ NB351_379.out _; (with_reducible repeat (first | refine blk_drewN ?_ _ | refine blk_drew ?_ | refine blk_alloc ?_ _)); exact BK351.out) hb); have n9_ := Aside0.mk (blk_below (g := gb379) (o := .cells #[.int .i64 t367, .bool t368, .int .i64 t369, .slice Ao78 t370.length co78, .slice Ao79 t373.length co79, .bool t376, .bool t377] 26 (0, 0)) (by (with_reducible repeat (first | refine blk_drewN ?_ _ | refine blk_drew ?_ | refine blk_alloc ?_ _)); refine blk_put (cs := #[.int .i64 t367, .bool t368, .int .i64 t369, .slice Ao78 t370.length co78, .slice Ao79 t373.length co79, .bool t376, .bool false]) ?_ 6 _ rfl; (with_reducible repeat (first | refine blk_drewN ?_ _ | refine blk_drew ?_ | refine blk_alloc ?_ _)); refine blk_put (cs := #[.int .i64 t367, .bool t368, .int .i64 t369, .slice Ao78 t370.length co78, .slice Ao79 t373.length co79, .bool false, .bool false]) ?_ 5 _ rfl; (with_reducible repeat (first | refine blk_drewN ?_ _ | refine blk_drew ?_ | refine blk_alloc ?_ _)); refine blk_put (cs := #[.int .i64 t367, .bool t368, .int .i64 t369, .slice Ao78 t370.length co78, .slice none 0 0, .bool false, .bool false]) ?_ 4 _ rfl; (with_reducible repeat (first | refine blk_drewN ?_ _ | refine blk_drew ?_ | refine blk_alloc ?_ _)); refine blk_put (cs := #[.int .i64 t367, .bool t368, .int .i64 t369, .slice none 0 0, .slice none 0 0, .bool false, .bool false]) ?_ 3 _ rfl; (with_reducible repeat (first | refine blk_drewN ?_ _ | refine blk_drew ?_ | refine blk_alloc ?_ _)); refine blk_put (cs := #[.int .i64 t367, .bool t368, .int .i64 0, .slice none 0 0, .slice none 0 0, .bool false, .bool false]) ?_ 2 _ rfl; (with_reducible repeat (first | refine blk_drewN ?_ _ | refine blk_drew ?_ | refine blk_alloc ?_ _)); refine blk_put (cs := #[.int .i64 t367, .bool false, .int .i64 0, .slice none 0 0, .slice none 0 0, .bool false, .bool false]) ?_ 1 _ rfl; (with_reducible repeat (first | refine blk_drewN ?_ _ | refine blk_drew ?_ | refine blk_alloc ?_ _)); refine blk_put (cs := #[.int .i64 0, .bool false, .int .i64 0, .slice none 0 0, .slice none 0 0, .bool false, .bool false]) ?_ 0 _ rfl; (with_reducible repeat (first | refine blk_drewN ?_ _ | refine blk_drew ?_ | refine blk_alloc ?_ _)); exact BK379.out) hb); have n10_ := Aside0.mk (below_step (by repeat (first | (with_reducible first | exact HB.out | apply below_alloc | apply pw_below_drewN | apply below_drew1 | refine below_set ?_ GE335.out | refine below_set ?_ GE351.out | refine below_set ?_ GE379.out) | exact HB.out)) hb); clear HO_336003; clear HO_336004; clear HO_352003; clear HO_352004; clear HO366; clear HO372; clear HO375; clear BK335; clear BK351; clear BK379; clear HB; have HO_336003 := n0_; have HO_336004 := n1_; have HO_352003 := n2_; have HO_352004 := n3_; have HO366 := n4_; have HO372 := n5_; have HO375 := n6_; have BK335 := n7_; have BK351 := n8_; have BK379 := n9_; have HB := n10_; clear n0_ n1_ n2_ n3_ n4_ n5_ n6_ n7_ n8_ n9_ n10_; (try clear hb); (try clear hb2); (try clear hk); (try clear hi)))
                          go_meet
                          case rel => exact ⟨_, ((t378 != t334)), (by first | rfl | (simp; done) | (simp [*]; done)), H', ⟨by have := HJ6.out; have := HJ37.out; first | omega | exact Nat.le_refl _⟩, ⟨by (with_reducible repeat (first | apply Kd.R_alloc | apply Kd.R_drewN | apply Kd.R_drew)); exact Kd.R_mono HO_336003.out (fun _ hk => ⟨hk.1.1.1.1, ⟨hk.1.1.1.2.1, ⟨hk.1.1.1.2.2, ⟨hk.1.2, hk.2⟩⟩⟩⟩)⟩, ⟨by (with_reducible repeat (first | apply Kd.R_alloc | apply Kd.R_drewN | apply Kd.R_drew)); exact Kd.R_mono HO_336004.out (fun _ hk => ⟨hk.1.1.1.1, ⟨hk.1.1.1.2.1, ⟨hk.1.1.1.2.2, ⟨hk.1.2, hk.2⟩⟩⟩⟩)⟩, ⟨by (with_reducible repeat (first | apply Kd.R_alloc | apply Kd.R_drewN | apply Kd.R_drew)); exact Kd.R_mono HO_352003.out (fun _ hk => ⟨hk.1.1.1.1, ⟨hk.1.1.1.2.1, ⟨hk.1.1.1.2.2, ⟨hk.1.2, hk.2⟩⟩⟩⟩)⟩, ⟨by (with_reducible repeat (first | apply Kd.R_alloc | apply Kd.R_drewN | apply Kd.R_drew)); exact Kd.R_mono HO_352004.out (fun _ hk => ⟨hk.1.1.1.1, ⟨hk.1.1.1.2.1, ⟨hk.1.1.1.2.2, ⟨hk.1.2, hk.2⟩⟩⟩⟩)⟩, ⟨by (with_reducible repeat (first | apply Kd.R_alloc | apply Kd.R_drewN | apply Kd.R_drew)); exact Kd.R_mono HO372.out (fun _ hk => ⟨hk.1.1.1.1.2, ⟨hk.1.1.1.2, ⟨hk.1.1.2, ⟨hk.1.2, hk.1.1.1.1.1⟩⟩⟩⟩)⟩, ⟨by (with_reducible repeat (first | apply Kd.R_alloc | apply Kd.R_drewN | apply Kd.R_drew)); exact Kd.R_mono HO375.out (fun _ hk => ⟨hk.1.1.1.1.2, ⟨hk.1.1.1.2, ⟨hk.1.1.2, ⟨hk.1.2, hk.1.1.1.1.1⟩⟩⟩⟩)⟩, ⟨by (with_reducible repeat (first | refine blk_drewN ?_ _ | refine blk_drew ?_ | refine blk_alloc ?_ _)); exact BK335.out⟩, ⟨by (with_reducible repeat (first | refine blk_drewN ?_ _ | refine blk_drew ?_ | refine blk_alloc ?_ _)); exact BK351.out⟩, ⟨by (with_reducible repeat (first | refine blk_drewN ?_ _ | refine blk_drew ?_ | refine blk_alloc ?_ _)); exact BK379.out⟩, ⟨by repeat (first | (with_reducible first | exact HB.out | apply below_alloc | apply pw_below_drewN | apply below_drew1 | refine below_set ?_ GE335.out | refine below_set ?_ GE351.out | refine below_set ?_ GE379.out) | exact HB.out)⟩⟩
                        · replace c81 := Bool.eq_false_iff.mpr c81
                          subst c81
                          have H1 : (laws_FnExactOldFrom.j2 kj37 t360 true t339 t340 t341 t361 t362 t348 t349) = some r := by rw [if_neg (show ¬ (false = true) by decide)] at H; exact H
                          clear H
                          have H := H1
                          clear H1
                          have H' := Aside0.mk H
                          clear H
                          have hnb88 := NB379_335.out
                          have hnc88 := NB335_379.out
                          have hnb89 := NB379_351.out
                          have hnc89 := NB351_379.out
                          have hcz90_0 : w74.cell? ⟨gb379, 0, none⟩ = some (.int .i64 0) := (blk_cell BK379.out 0).trans rfl
                          have hcz90_1 : w74.cell? ⟨gb379, 1, none⟩ = some (.bool false) := (blk_cell BK379.out 1).trans rfl
                          have hcz90_2 : w74.cell? ⟨gb379, 2, none⟩ = some (.int .i64 0) := (blk_cell BK379.out 2).trans rfl
                          have hcz90_3 : w74.cell? ⟨gb379, 3, none⟩ = some (.slice none 0 0) := (blk_cell BK379.out 3).trans rfl
                          have hcz90_4 : w74.cell? ⟨gb379, 4, none⟩ = some (.slice none 0 0) := (blk_cell BK379.out 4).trans rfl
                          have hcz90_5 : w74.cell? ⟨gb379, 5, none⟩ = some (.bool false) := (blk_cell BK379.out 5).trans rfl
                          have hcz90_6 : w74.cell? ⟨gb379, 6, none⟩ = some (.bool false) := (blk_cell BK379.out 6).trans rfl
                          have hfz90_0 := blk_frozen BK379.out 0
                          have hfz90_1 := blk_frozen BK379.out 1
                          have hfz90_2 := blk_frozen BK379.out 2
                          have hfz90_3 := blk_frozen BK379.out 3
                          have hfz90_4 := blk_frozen BK379.out 4
                          have hfz90_5 := blk_frozen BK379.out 5
                          have hfz90_6 := blk_frozen BK379.out 6
                          have hnb91 := NB335_351.out
                          have hnc91 := NB351_335.out
                          have hcz92_0 : w74.cell? ⟨gb335, 0, none⟩ = some (.int .i64 t323) := (blk_cell BK335.out 0).trans rfl
                          have hcz92_1 : w74.cell? ⟨gb335, 1, none⟩ = some (.bool t324) := (blk_cell BK335.out 1).trans rfl
                          have hcz92_2 : w74.cell? ⟨gb335, 2, none⟩ = some (.int .i64 t325) := (blk_cell BK335.out 2).trans rfl
                          have hcz92_3 : w74.cell? ⟨gb335, 3, none⟩ = some (.slice Ao13 t326.length co13) := (blk_cell BK335.out 3).trans rfl
                          have hcz92_4 : w74.cell? ⟨gb335, 4, none⟩ = some (.slice Ao14 t329.length co14) := (blk_cell BK335.out 4).trans rfl
                          have hcz92_5 : w74.cell? ⟨gb335, 5, none⟩ = some (.bool t332) := (blk_cell BK335.out 5).trans rfl
                          have hcz92_6 : w74.cell? ⟨gb335, 6, none⟩ = some (.bool t333) := (blk_cell BK335.out 6).trans rfl
                          have hfz92_0 := blk_frozen BK335.out 0
                          have hfz92_1 := blk_frozen BK335.out 1
                          have hfz92_2 := blk_frozen BK335.out 2
                          have hfz92_3 := blk_frozen BK335.out 3
                          have hfz92_4 := blk_frozen BK335.out 4
                          have hfz92_5 := blk_frozen BK335.out 5
                          have hfz92_6 := blk_frozen BK335.out 6
                          go_wp2_with (first | ((with_reducible refine gate_callee (f := 35) rfl ?_); refine goesL_ (some 78) rfl rfl Try.func35 (by kernel_rfl) rfl #[.agg #[.int .i64 t367, .bool t368, .int .i64 t369, .slice Ao78 t370.length co78, .slice Ao79 t373.length co79, .bool t376, .bool t377], .agg #[.int .i64 t323, .bool t324, .int .i64 t325, .slice Ao13 t326.length co13, .slice Ao14 t329.length co14, .bool t332, .bool t333]] rfl (by (try simp only [List.map_toArray, List.map_cons, List.map_nil]); first | done | rfl | (simp only [List.length_drop, List.length_take]; rfl)) ?_; (with_reducible refine (laws_eqOld.calls kj37 t367 t368 t369 _ _ t370 _ _ t373 t376 t377 t323 t324 t325 _ _ t326 _ _ t329 t332 t333 false _ ?side1 ?side2 ?side3 ?side4 ?side5 ?side6 ?side7 ?side8 A80.out).mono ?_); (case side1 => refine (Kd.R_reads' (e := 3) (base := w.heap.size) (ok := fun k_ => (((((some k_ ≠ (.slice Ao79 t373.length co79 : Value).ownBlock ∧ some k_ ≠ (.slice Ao13 t326.length co13 : Value).ownBlock) ∧ some k_ ≠ (.slice Ao14 t329.length co14 : Value).ownBlock) ∧ some k_ ≠ (.slice Ao21 t342.length co21 : Value).ownBlock) ∧ some k_ ≠ (.slice Ao22 t345.length co22 : Value).ownBlock) ∧ some k_ ≠ (.slice Ao72 t364.length co72 : Value).ownBlock)) (n := t370.length) (c := co78) ?_).2.2; exact (by (with_reducible repeat (first | apply Kd.R_alloc | apply Kd.R_drewN | apply Kd.R_drew)); exact (Kd.R_mono (Kd.R_far (p := ⟨gb379, 6, none⟩) (Kd.R_far (p := ⟨gb379, 5, none⟩) (Kd.R_far (p := ⟨gb379, 4, none⟩) (Kd.R_far (p := ⟨gb379, 3, none⟩) (Kd.R_far (p := ⟨gb379, 2, none⟩) (Kd.R_far (p := ⟨gb379, 1, none⟩) (Kd.R_far (p := ⟨gb379, 0, none⟩) (Kd.R_types HO372.out BK379.out (by decide)) (fun _ hk => hk.2) (.int .i64 t367)) (fun _ hk => hk.2) (.bool t368)) (fun _ hk => hk.2) (.int .i64 t369)) (fun _ hk => hk.2) (.slice Ao78 t370.length co78)) (fun _ hk => hk.2) (.slice Ao79 t373.length co79)) (fun _ hk => hk.2) (.bool t376)) (fun _ hk => hk.2) (.bool t377)) (fun _ h_ => h_.1)))); (case side2 => exact (Kd.R_reads' HO372.out).2.1); (case side3 => refine (Kd.R_reads' (e := 3) (base := w.heap.size) (ok := fun k_ => (((((some k_ ≠ (.slice Ao78 t370.length co78 : Value).ownBlock ∧ some k_ ≠ (.slice Ao13 t326.length co13 : Value).ownBlock) ∧ some k_ ≠ (.slice Ao14 t329.length co14 : Value).ownBlock) ∧ some k_ ≠ (.slice Ao21 t342.length co21 : Value).ownBlock) ∧ some k_ ≠ (.slice Ao22 t345.length co22 : Value).ownBlock) ∧ some k_ ≠ (.slice Ao72 t364.length co72 : Value).ownBlock)) (n := t373.length) (c := co79) ?_).2.2; exact (by (with_reducible repeat (first | apply Kd.R_alloc | apply Kd.R_drewN | apply Kd.R_drew)); exact (Kd.R_mono (Kd.R_far (p := ⟨gb379, 6, none⟩) (Kd.R_far (p := ⟨gb379, 5, none⟩) (Kd.R_far (p := ⟨gb379, 4, none⟩) (Kd.R_far (p := ⟨gb379, 3, none⟩) (Kd.R_far (p := ⟨gb379, 2, none⟩) (Kd.R_far (p := ⟨gb379, 1, none⟩) (Kd.R_far (p := ⟨gb379, 0, none⟩) (Kd.R_types HO375.out BK379.out (by decide)) (fun _ hk => hk.2) (.int .i64 t367)) (fun _ hk => hk.2) (.bool t368)) (fun _ hk => hk.2) (.int .i64 t369)) (fun _ hk => hk.2) (.slice Ao78 t370.length co78)) (fun _ hk => hk.2) (.slice Ao79 t373.length co79)) (fun _ hk => hk.2) (.bool t376)) (fun _ hk => hk.2) (.bool t377)) (fun _ h_ => h_.1)))); (case side4 => exact (Kd.R_reads' HO375.out).2.1); (case side5 => refine (Kd.R_reads' (e := 3) (base := w.heap.size) (ok := fun k_ => ((((some k_ ≠ (.slice Ao14 t329.length co14 : Value).ownBlock ∧ (some k_ ≠ (.slice Ao21 t342.length co21 : Value).ownBlock ∧ some k_ ≠ (.slice Ao22 t345.length co22 : Value).ownBlock)) ∧ some k_ ≠ (.slice Ao72 t364.length co72 : Value).ownBlock) ∧ some k_ ≠ (.slice Ao78 t370.length co78 : Value).ownBlock) ∧ some k_ ≠ (.slice Ao79 t373.length co79 : Value).ownBlock)) (n := t326.length) (c := co13) ?_).2.2; exact (by (with_reducible repeat (first | apply Kd.R_alloc | apply Kd.R_drewN | apply Kd.R_drew)); exact (Kd.R_mono (Kd.R_far (p := ⟨gb379, 6, none⟩) (Kd.R_far (p := ⟨gb379, 5, none⟩) (Kd.R_far (p := ⟨gb379, 4, none⟩) (Kd.R_far (p := ⟨gb379, 3, none⟩) (Kd.R_far (p := ⟨gb379, 2, none⟩) (Kd.R_far (p := ⟨gb379, 1, none⟩) (Kd.R_far (p := ⟨gb379, 0, none⟩) (Kd.R_types HO_336003.out BK379.out (by decide)) (fun _ hk => hk.2) (.int .i64 t367)) (fun _ hk => hk.2) (.bool t368)) (fun _ hk => hk.2) (.int .i64 t369)) (fun _ hk => hk.2) (.slice Ao78 t370.length co78)) (fun _ hk => hk.2) (.slice Ao79 t373.length co79)) (fun _ hk => hk.2) (.bool t376)) (fun _ hk => hk.2) (.bool t377)) (fun _ h_ => h_.1)))); (case side6 => exact (Kd.R_reads' HO_336003.out).2.1); (case side7 => refine (Kd.R_reads' (e := 3) (base := w.heap.size) (ok := fun k_ => ((((some k_ ≠ (.slice Ao13 t326.length co13 : Value).ownBlock ∧ (some k_ ≠ (.slice Ao21 t342.length co21 : Value).ownBlock ∧ some k_ ≠ (.slice Ao22 t345.length co22 : Value).ownBlock)) ∧ some k_ ≠ (.slice Ao72 t364.length co72 : Value).ownBlock) ∧ some k_ ≠ (.slice Ao78 t370.length co78 : Value).ownBlock) ∧ some k_ ≠ (.slice Ao79 t373.length co79 : Value).ownBlock)) (n := t329.length) (c := co14) ?_).2.2; exact (by (with_reducible repeat (first | apply Kd.R_alloc | apply Kd.R_drewN | apply Kd.R_drew)); exact (Kd.R_mono (Kd.R_far (p := ⟨gb379, 6, none⟩) (Kd.R_far (p := ⟨gb379, 5, none⟩) (Kd.R_far (p := ⟨gb379, 4, none⟩) (Kd.R_far (p := ⟨gb379, 3, none⟩) (Kd.R_far (p := ⟨gb379, 2, none⟩) (Kd.R_far (p := ⟨gb379, 1, none⟩) (Kd.R_far (p := ⟨gb379, 0, none⟩) (Kd.R_types HO_336004.out BK379.out (by decide)) (fun _ hk => hk.2) (.int .i64 t367)) (fun _ hk => hk.2) (.bool t368)) (fun _ hk => hk.2) (.int .i64 t369)) (fun _ hk => hk.2) (.slice Ao78 t370.length co78)) (fun _ hk => hk.2) (.slice Ao79 t373.length co79)) (fun _ hk => hk.2) (.bool t376)) (fun _ hk => hk.2) (.bool t377)) (fun _ h_ => h_.1)))); (case side8 => exact (Kd.R_reads' HO_336004.out).2.1); rintro e w93 ⟨rfl, hb⟩; refine ⟨_, rfl, ?_⟩; have n0_ := Aside0.mk (Kd.R_below (by (with_reducible repeat (first | apply Kd.R_alloc | apply Kd.R_drewN | apply Kd.R_drew)); exact (Kd.R_mono (Kd.R_far (p := ⟨gb379, 6, none⟩) (Kd.R_far (p := ⟨gb379, 5, none⟩) (Kd.R_far (p := ⟨gb379, 4, none⟩) (Kd.R_far (p := ⟨gb379, 3, none⟩) (Kd.R_far (p := ⟨gb379, 2, none⟩) (Kd.R_far (p := ⟨gb379, 1, none⟩) (Kd.R_far (p := ⟨gb379, 0, none⟩) (Kd.R_types HO_336003.out BK379.out (by decide)) (fun _ hk => hk.2) (.int .i64 t367)) (fun _ hk => hk.2) (.bool t368)) (fun _ hk => hk.2) (.int .i64 t369)) (fun _ hk => hk.2) (.slice Ao78 t370.length co78)) (fun _ hk => hk.2) (.slice Ao79 t373.length co79)) (fun _ hk => hk.2) (.bool t376)) (fun _ hk => hk.2) (.bool t377)) (fun _ h_ => h_.1))) hb); have n1_ := Aside0.mk (Kd.R_below (by (with_reducible repeat (first | apply Kd.R_alloc | apply Kd.R_drewN | apply Kd.R_drew)); exact (Kd.R_mono (Kd.R_far (p := ⟨gb379, 6, none⟩) (Kd.R_far (p := ⟨gb379, 5, none⟩) (Kd.R_far (p := ⟨gb379, 4, none⟩) (Kd.R_far (p := ⟨gb379, 3, none⟩) (Kd.R_far (p := ⟨gb379, 2, none⟩) (Kd.R_far (p := ⟨gb379, 1, none⟩) (Kd.R_far (p := ⟨gb379, 0, none⟩) (Kd.R_types HO_336004.out BK379.out (by decide)) (fun _ hk => hk.2) (.int .i64 t367)) (fun _ hk => hk.2) (.bool t368)) (fun _ hk => hk.2) (.int .i64 t369)) (fun _ hk => hk.2) (.slice Ao78 t370.length co78)) (fun _ hk => hk.2) (.slice Ao79 t373.length co79)) (fun _ hk => hk.2) (.bool t376)) (fun _ hk => hk.2) (.bool t377)) (fun _ h_ => h_.1))) hb); have n2_ := Aside0.mk (Kd.R_below (by (with_reducible repeat (first | apply Kd.R_alloc | apply Kd.R_drewN | apply Kd.R_drew)); exact (Kd.R_mono (Kd.R_far (p := ⟨gb379, 6, none⟩) (Kd.R_far (p := ⟨gb379, 5, none⟩) (Kd.R_far (p := ⟨gb379, 4, none⟩) (Kd.R_far (p := ⟨gb379, 3, none⟩) (Kd.R_far (p := ⟨gb379, 2, none⟩) (Kd.R_far (p := ⟨gb379, 1, none⟩) (Kd.R_far (p := ⟨gb379, 0, none⟩) (Kd.R_types HO_352003.out BK379.out (by decide)) (fun _ hk => hk.2) (.int .i64 t367)) (fun _ hk => hk.2) (.bool t368)) (fun _ hk => hk.2) (.int .i64 t369)) (fun _ hk => hk.2) (.slice Ao78 t370.length co78)) (fun _ hk => hk.2) (.slice Ao79 t373.length co79)) (fun _ hk => hk.2) (.bool t376)) (fun _ hk => hk.2) (.bool t377)) (fun _ h_ => h_.1))) hb); have n3_ := Aside0.mk (Kd.R_below (by (with_reducible repeat (first | apply Kd.R_alloc | apply Kd.R_drewN | apply Kd.R_drew)); exact (Kd.R_mono (Kd.R_far (p := ⟨gb379, 6, none⟩) (Kd.R_far (p := ⟨gb379, 5, none⟩) (Kd.R_far (p := ⟨gb379, 4, none⟩) (Kd.R_far (p := ⟨gb379, 3, none⟩) (Kd.R_far (p := ⟨gb379, 2, none⟩) (Kd.R_far (p := ⟨gb379, 1, none⟩) (Kd.R_far (p := ⟨gb379, 0, none⟩) (Kd.R_types HO_352004.out BK379.out (by decide)) (fun _ hk => hk.2) (.int .i64 t367)) (fun _ hk => hk.2) (.bool t368)) (fun _ hk => hk.2) (.int .i64 t369)) (fun _ hk => hk.2) (.slice Ao78 t370.length co78)) (fun _ hk => hk.2) (.slice Ao79 t373.length co79)) (fun _ hk => hk.2) (.bool t376)) (fun _ hk => hk.2) (.bool t377)) (fun _ h_ => h_.1))) hb); have n4_ := Aside0.mk (Kd.R_below (by (with_reducible repeat (first | apply Kd.R_alloc | apply Kd.R_drewN | apply Kd.R_drew)); exact (Kd.R_mono (Kd.R_far (p := ⟨gb379, 6, none⟩) (Kd.R_far (p := ⟨gb379, 5, none⟩) (Kd.R_far (p := ⟨gb379, 4, none⟩) (Kd.R_far (p := ⟨gb379, 3, none⟩) (Kd.R_far (p := ⟨gb379, 2, none⟩) (Kd.R_far (p := ⟨gb379, 1, none⟩) (Kd.R_far (p := ⟨gb379, 0, none⟩) (Kd.R_types HO366.out BK379.out (by decide)) (fun _ hk => hk.2) (.int .i64 t367)) (fun _ hk => hk.2) (.bool t368)) (fun _ hk => hk.2) (.int .i64 t369)) (fun _ hk => hk.2) (.slice Ao78 t370.length co78)) (fun _ hk => hk.2) (.slice Ao79 t373.length co79)) (fun _ hk => hk.2) (.bool t376)) (fun _ hk => hk.2) (.bool t377)) (fun _ h_ => h_.1))) hb); have n5_ := Aside0.mk (Kd.R_below (by (with_reducible repeat (first | apply Kd.R_alloc | apply Kd.R_drewN | apply Kd.R_drew)); exact (Kd.R_mono (Kd.R_far (p := ⟨gb379, 6, none⟩) (Kd.R_far (p := ⟨gb379, 5, none⟩) (Kd.R_far (p := ⟨gb379, 4, none⟩) (Kd.R_far (p := ⟨gb379, 3, none⟩) (Kd.R_far (p := ⟨gb379, 2, none⟩) (Kd.R_far (p := ⟨gb379, 1, none⟩) (Kd.R_far (p := ⟨gb379, 0, none⟩) (Kd.R_types HO372.out BK379.out (by decide)) (fun _ hk => hk.2) (.int .i64 t367)) (fun _ hk => hk.2) (.bool t368)) (fun _ hk => hk.2) (.int .i64 t369)) (fun _ hk => hk.2) (.slice Ao78 t370.length co78)) (fun _ hk => hk.2) (.slice Ao79 t373.length co79)) (fun _ hk => hk.2) (.bool t376)) (fun _ hk => hk.2) (.bool t377)) (fun _ h_ => h_.1))) hb); have n6_ := Aside0.mk (Kd.R_below (by (with_reducible repeat (first | apply Kd.R_alloc | apply Kd.R_drewN | apply Kd.R_drew)); exact (Kd.R_mono (Kd.R_far (p := ⟨gb379, 6, none⟩) (Kd.R_far (p := ⟨gb379, 5, none⟩) (Kd.R_far (p := ⟨gb379, 4, none⟩) (Kd.R_far (p := ⟨gb379, 3, none⟩) (Kd.R_far (p := ⟨gb379, 2, none⟩) (Kd.R_far (p := ⟨gb379, 1, none⟩) (Kd.R_far (p := ⟨gb379, 0, none⟩) (Kd.R_types HO375.out BK379.out (by decide)) (fun _ hk => hk.2) (.int .i64 t367)) (fun _ hk => hk.2) (.bool t368)) (fun _ hk => hk.2) (.int .i64 t369)) (fun _ hk => hk.2) (.slice Ao78 t370.length co78)) (fun _ hk => hk.2) (.slice Ao79 t373.length co79)) (fun _ hk => hk.2) (.bool t376)) (fun _ hk => hk.2) (.bool t377)) (fun _ h_ => h_.1))) hb); have n7_ := Aside0.mk (blk_below (g := gb335) (o := .cells #[.int .i64 t323, .bool t324, .int .i64 t325, .slice Ao13 t326.length co13, .slice Ao14 t329.length co14, .bool t332, .bool t333] 26 (0, 0)) (by (with_reducible repeat (first | refine blk_drewN ?_ _ | refine blk_drew ?_ | refine blk_alloc ?_ _)); refine blk_far ?_ NB335_379.out _; (with_reducible repeat (first | refine blk_drewN ?_ _ | refine blk_drew ?_ | refine blk_alloc ?_ _)); refine blk_far ?_ NB335_379.out _; (with_reducible repeat (first | refine blk_drewN ?_ _ | refine blk_drew ?_ | refine blk_alloc ?_ _)); refine blk_far ?_ NB335_379.out _; (with_reducible repeat (first | refine blk_drewN ?_ _ | refine blk_drew ?_ | refine blk_alloc ?_ _)); refine blk_far ?_ NB335_379.out _; (with_reducible repeat (first | refine blk_drewN ?_ _ | refine blk_drew ?_ | refine blk_alloc ?_ _)); refine blk_far ?_ NB335_379.out _; (with_reducible repeat (first | refine blk_drewN ?_ _ | refine blk_drew ?_ | refine blk_alloc ?_ _)); refine blk_far ?_ NB335_379.out _; (with_reducible repeat (first | refine blk_drewN ?_ _ | refine blk_drew ?_ | refine blk_alloc ?_ _)); refine blk_far ?_ NB335_379.out _; (with_reducible repeat (first | refine blk_drewN ?_ _ | refine blk_drew ?_ | refine blk_alloc ?_ _)); exact BK335.out) hb); have n8_ := Aside0.mk (blk_below (g := gb351) (o := .cells #[.int .i64 t339, .bool t340, .int .i64 t341, .slice Ao21 t342.length co21, .slice Ao22 t345.length co22, .bool t348, .bool t349] 26 (0, 0)) (by (with_reducible repeat (first | refine blk_drewN ?_ _ | refine blk_drew ?_ | refine blk_alloc ?_ _)); refine blk_far ?_ NB351_379.out _; (with_reducible repeat (first | refine blk_drewN ?_ _ | refine blk_drew ?_ | refine blk_alloc ?_ _)); refine blk_far ?_ NB351_379.out _; (with_reducible repeat (first | refine blk_drewN ?_ _ | refine blk_drew ?_ | refine blk_alloc ?_ _)); refine blk_far ?_ NB351_379.out _; (with_reducible repeat (first | refine blk_drewN ?_ _ | refine blk_drew ?_ | refine blk_alloc ?_ _)); refine blk_far ?_ NB351_379.out _; (with_reducible repeat (first | refine blk_drewN ?_ _ | refine blk_drew ?_ | refine blk_alloc ?_ _)); refine blk_far ?_ NB351_379.out _; (with_reducible repeat (first | refine blk_drewN ?_ _ | refine blk_drew ?_ | refine blk_alloc ?_ _)); refine blk_far ?_ NB351_379.out _; (with_reducible repeat (first | refine blk_drewN ?_ _ | refine blk_drew ?_ | refine blk_alloc ?_ _)); refine blk_far ?_ NB351_379.out _; (with_reducible repeat (first | refine blk_drewN ?_ _ | refine blk_drew ?_ | refine blk_alloc ?_ _)); exact BK351.out) hb); have n9_ := Aside0.mk (blk_below (g := gb379) (o := .cells #[.int .i64 t367, .bool t368, .int .i64 t369, .slice Ao78 t370.length co78, .slice Ao79 t373.length co79, .bool t376, .bool t377] 26 (0, 0)) (by (with_reducible repeat (first | refine blk_drewN ?_ _ | refine blk_drew ?_ | refine blk_alloc ?_ _)); refine blk_put (cs := #[.int .i64 t367, .bool t368, .int .i64 t369, .slice Ao78 t370.length co78, .slice Ao79 t373.length co79, .bool t376, .bool false]) ?_ 6 _ rfl; (with_reducible repeat (first | refine blk_drewN ?_ _ | refine blk_drew ?_ | refine blk_alloc ?_ _)); refine blk_put (cs := #[.int .i64 t367, .bool t368, .int .i64 t369, .slice Ao78 t370.length co78, .slice Ao79 t373.length co79, .bool false, .bool false]) ?_ 5 _ rfl; (with_reducible repeat (first | refine blk_drewN ?_ _ | refine blk_drew ?_ | refine blk_alloc ?_ _)); refine blk_put (cs := #[.int .i64 t367, .bool t368, .int .i64 t369, .slice Ao78 t370.length co78, .slice none 0 0, .bool false, .bool false]) ?_ 4 _ rfl; (with_reducible repeat (first | refine blk_drewN ?_ _ | refine blk_drew ?_ | refine blk_alloc ?_ _)); refine blk_put (cs := #[.int .i64 t367, .bool t368, .int .i64 t369, .slice none 0 0, .slice none 0 0, .bool false, .bool false]) ?_ 3 _ rfl; (with_reducible repeat (first | refine blk_drewN ?_ _ | refine blk_drew ?_ | refine blk_alloc ?_ _)); refine blk_put (cs := #[.int .i64 t367, .bool t368, .int .i64 0, .slice none 0 0, .slice none 0 0, .bool false, .bool false]) ?_ 2 _ rfl; (with_reducible repeat (first | refine blk_drewN ?_ _ | refine blk_drew ?_ | refine blk_alloc ?_ _)); refine blk_put (cs := #[.int .i64 t367, .bool false, .int .i64 0, .slice none 0 0, .slice none 0 0, .bool false, .bool false]) ?_ 1 _ rfl; (with_reducible repeat (first | refine blk_drewN ?_ _ | refine blk_drew ?_ | refine blk_alloc ?_ _)); refine blk_put (cs := #[.int .i64 0, .bool false, .int .i64 0, .slice none 0 0, .slice none 0 0, .bool false, .bool false]) ?_ 0 _ rfl; (with_reducible repeat (first | refine blk_drewN ?_ _ | refine blk_drew ?_ | refine blk_alloc ?_ _)); exact BK379.out) hb); have n10_ := Aside0.mk (below_step (by repeat (first | (with_reducible first | exact HB.out | apply below_alloc | apply pw_below_drewN | apply below_drew1 | refine below_set ?_ GE335.out | refine below_set ?_ GE351.out | refine below_set ?_ GE379.out) | exact HB.out)) hb); clear HO_336003; clear HO_336004; clear HO_352003; clear HO_352004; clear HO366; clear HO372; clear HO375; clear BK335; clear BK351; clear BK379; clear HB; have HO_336003 := n0_; have HO_336004 := n1_; have HO_352003 := n2_; have HO_352004 := n3_; have HO366 := n4_; have HO372 := n5_; have HO375 := n6_; have BK335 := n7_; have BK351 := n8_; have BK379 := n9_; have HB := n10_; clear n0_ n1_ n2_ n3_ n4_ n5_ n6_ n7_ n8_ n9_ n10_; (try clear hb); (try clear hb2); (try clear hk); (try clear hi)))
                          go_meet
                          case rel => exact ⟨_, (true), (by first | rfl | (simp; done) | (simp [*]; done)), H', ⟨by have := HJ6.out; have := HJ37.out; first | omega | exact Nat.le_refl _⟩, ⟨by (with_reducible repeat (first | apply Kd.R_alloc | apply Kd.R_drewN | apply Kd.R_drew)); exact Kd.R_mono HO_336003.out (fun _ hk => ⟨hk.1.1.1.1, ⟨hk.1.1.1.2.1, ⟨hk.1.1.1.2.2, ⟨hk.1.2, hk.2⟩⟩⟩⟩)⟩, ⟨by (with_reducible repeat (first | apply Kd.R_alloc | apply Kd.R_drewN | apply Kd.R_drew)); exact Kd.R_mono HO_336004.out (fun _ hk => ⟨hk.1.1.1.1, ⟨hk.1.1.1.2.1, ⟨hk.1.1.1.2.2, ⟨hk.1.2, hk.2⟩⟩⟩⟩)⟩, ⟨by (with_reducible repeat (first | apply Kd.R_alloc | apply Kd.R_drewN | apply Kd.R_drew)); exact Kd.R_mono HO_352003.out (fun _ hk => ⟨hk.1.1.1.1, ⟨hk.1.1.1.2.1, ⟨hk.1.1.1.2.2, ⟨hk.1.2, hk.2⟩⟩⟩⟩)⟩, ⟨by (with_reducible repeat (first | apply Kd.R_alloc | apply Kd.R_drewN | apply Kd.R_drew)); exact Kd.R_mono HO_352004.out (fun _ hk => ⟨hk.1.1.1.1, ⟨hk.1.1.1.2.1, ⟨hk.1.1.1.2.2, ⟨hk.1.2, hk.2⟩⟩⟩⟩)⟩, ⟨by (with_reducible repeat (first | apply Kd.R_alloc | apply Kd.R_drewN | apply Kd.R_drew)); exact Kd.R_mono HO372.out (fun _ hk => ⟨hk.1.1.1.1.2, ⟨hk.1.1.1.2, ⟨hk.1.1.2, ⟨hk.1.2, hk.1.1.1.1.1⟩⟩⟩⟩)⟩, ⟨by (with_reducible repeat (first | apply Kd.R_alloc | apply Kd.R_drewN | apply Kd.R_drew)); exact Kd.R_mono HO375.out (fun _ hk => ⟨hk.1.1.1.1.2, ⟨hk.1.1.1.2, ⟨hk.1.1.2, ⟨hk.1.2, hk.1.1.1.1.1⟩⟩⟩⟩)⟩, ⟨by (with_reducible repeat (first | refine blk_drewN ?_ _ | refine blk_drew ?_ | refine blk_alloc ?_ _)); exact BK335.out⟩, ⟨by (with_reducible repeat (first | refine blk_drewN ?_ _ | refine blk_drew ?_ | refine blk_alloc ?_ _)); exact BK351.out⟩, ⟨by (with_reducible repeat (first | refine blk_drewN ?_ _ | refine blk_drew ?_ | refine blk_alloc ?_ _)); exact BK379.out⟩, ⟨by repeat (first | (with_reducible first | exact HB.out | apply below_alloc | apply pw_below_drewN | apply below_drew1 | refine below_set ?_ GE335.out | refine below_set ?_ GE351.out | refine below_set ?_ GE379.out) | exact HB.out)⟩⟩
                      case rest =>
                        clear HC65
                        try clear c1
                        try clear c2
                        try clear c2b0
                        try clear c2b1
                        try clear p2
                        try clear c3
                        try clear c4
                        try clear c5
                        try clear c6
                        try clear c7
                        try clear c8
                        try clear c9
                        try clear c14
                        try clear c16
                        try clear c17
                        try clear c19
                        try clear c24
                        try clear c25
                        try clear c29
                        try clear c33
                        try clear c35
                        try clear c36
                        try clear c41
                        try clear c42
                        try clear c42b0
                        try clear c43
                        try clear c44
                        try clear c45
                        try clear c46
                        try clear c49
                        try clear c53
                        try clear c56
                        try clear c56b0
                        try clear c57
                        try clear c62
                        try clear c62b0
                        try clear c62b1
                        try clear c66
                        try clear c75
                        try clear c76
                        try clear c81
                        try clear c82
                        try clear c83
                        try clear c85
                        try clear c88
                        try clear c89
                        try clear c91
                        try clear hcz12_0
                        try clear hcz12_1
                        try clear hcz12_2
                        try clear hcz12_3
                        try clear hcz12_4
                        try clear hcz12_5
                        try clear hcz12_6
                        try clear hcz20_0
                        try clear hcz20_1
                        try clear hcz20_2
                        try clear hcz20_3
                        try clear hcz20_4
                        try clear hcz20_5
                        try clear hcz20_6
                        try clear hcz26_0
                        try clear hcz26_1
                        try clear hcz26_2
                        try clear hcz26_3
                        try clear hcz26_4
                        try clear hcz26_5
                        try clear hcz26_6
                        try clear hcz27_0
                        try clear hcz27_1
                        try clear hcz27_2
                        try clear hcz27_3
                        try clear hcz27_4
                        try clear hcz27_5
                        try clear hcz27_6
                        try clear hcz30_0
                        try clear hcz30_1
                        try clear hcz30_2
                        try clear hcz30_3
                        try clear hcz30_4
                        try clear hcz30_5
                        try clear hcz30_6
                        try clear hcz31_0
                        try clear hcz31_1
                        try clear hcz31_2
                        try clear hcz31_3
                        try clear hcz31_4
                        try clear hcz31_5
                        try clear hcz31_6
                        try clear hcz46_0
                        try clear hcz46_1
                        try clear hcz46_2
                        try clear hcz46_3
                        try clear hcz46_4
                        try clear hcz46_5
                        try clear hcz46_6
                        try clear hcz47_0
                        try clear hcz47_1
                        try clear hcz47_2
                        try clear hcz47_3
                        try clear hcz47_4
                        try clear hcz47_5
                        try clear hcz47_6
                        try clear hcz50_0
                        try clear hcz50_1
                        try clear hcz50_2
                        try clear hcz50_3
                        try clear hcz50_4
                        try clear hcz50_5
                        try clear hcz50_6
                        try clear hcz51_0
                        try clear hcz51_1
                        try clear hcz51_2
                        try clear hcz51_3
                        try clear hcz51_4
                        try clear hcz51_5
                        try clear hcz51_6
                        try clear hcz58_0
                        try clear hcz58_1
                        try clear hcz58_2
                        try clear hcz58_3
                        try clear hcz58_4
                        try clear hcz58_5
                        try clear hcz58_6
                        try clear hcz60_0
                        try clear hcz60_1
                        try clear hcz60_2
                        try clear hcz60_3
                        try clear hcz60_4
                        try clear hcz60_5
                        try clear hcz60_6
                        try clear hcz67_0
                        try clear hcz67_1
                        try clear hcz67_2
                        try clear hcz67_3
                        try clear hcz67_4
                        try clear hcz67_5
                        try clear hcz67_6
                        try clear hcz69_0
                        try clear hcz69_1
                        try clear hcz69_2
                        try clear hcz69_3
                        try clear hcz69_4
                        try clear hcz69_5
                        try clear hcz69_6
                        try clear hcz77_0
                        try clear hcz77_1
                        try clear hcz77_2
                        try clear hcz77_3
                        try clear hcz77_4
                        try clear hcz77_5
                        try clear hcz77_6
                        try clear hcz84_0
                        try clear hcz84_1
                        try clear hcz84_2
                        try clear hcz84_3
                        try clear hcz84_4
                        try clear hcz84_5
                        try clear hcz84_6
                        try clear hcz86_0
                        try clear hcz86_1
                        try clear hcz86_2
                        try clear hcz86_3
                        try clear hcz86_4
                        try clear hcz86_5
                        try clear hcz86_6
                        try clear hcz90_0
                        try clear hcz90_1
                        try clear hcz90_2
                        try clear hcz90_3
                        try clear hcz90_4
                        try clear hcz90_5
                        try clear hcz90_6
                        try clear hcz92_0
                        try clear hcz92_1
                        try clear hcz92_2
                        try clear hcz92_3
                        try clear hcz92_4
                        try clear hcz92_5
                        try clear hcz92_6
                        try clear hfz12_0
                        try clear hfz12_1
                        try clear hfz12_2
                        try clear hfz12_3
                        try clear hfz12_4
                        try clear hfz12_5
                        try clear hfz12_6
                        try clear hfz20_0
                        try clear hfz20_1
                        try clear hfz20_2
                        try clear hfz20_3
                        try clear hfz20_4
                        try clear hfz20_5
                        try clear hfz20_6
                        try clear hfz26_0
                        try clear hfz26_1
                        try clear hfz26_2
                        try clear hfz26_3
                        try clear hfz26_4
                        try clear hfz26_5
                        try clear hfz26_6
                        try clear hfz27_0
                        try clear hfz27_1
                        try clear hfz27_2
                        try clear hfz27_3
                        try clear hfz27_4
                        try clear hfz27_5
                        try clear hfz27_6
                        try clear hfz30_0
                        try clear hfz30_1
                        try clear hfz30_2
                        try clear hfz30_3
                        try clear hfz30_4
                        try clear hfz30_5
                        try clear hfz30_6
                        try clear hfz31_0
                        try clear hfz31_1
                        try clear hfz31_2
                        try clear hfz31_3
                        try clear hfz31_4
                        try clear hfz31_5
                        try clear hfz31_6
                        try clear hfz46_0
                        try clear hfz46_1
                        try clear hfz46_2
                        try clear hfz46_3
                        try clear hfz46_4
                        try clear hfz46_5
                        try clear hfz46_6
                        try clear hfz47_0
                        try clear hfz47_1
                        try clear hfz47_2
                        try clear hfz47_3
                        try clear hfz47_4
                        try clear hfz47_5
                        try clear hfz47_6
                        try clear hfz50_0
                        try clear hfz50_1
                        try clear hfz50_2
                        try clear hfz50_3
                        try clear hfz50_4
                        try clear hfz50_5
                        try clear hfz50_6
                        try clear hfz51_0
                        try clear hfz51_1
                        try clear hfz51_2
                        try clear hfz51_3
                        try clear hfz51_4
                        try clear hfz51_5
                        try clear hfz51_6
                        try clear hfz58_0
                        try clear hfz58_1
                        try clear hfz58_2
                        try clear hfz58_3
                        try clear hfz58_4
                        try clear hfz58_5
                        try clear hfz58_6
                        try clear hfz60_0
                        try clear hfz60_1
                        try clear hfz60_2
                        try clear hfz60_3
                        try clear hfz60_4
                        try clear hfz60_5
                        try clear hfz60_6
                        try clear hfz67_0
                        try clear hfz67_1
                        try clear hfz67_2
                        try clear hfz67_3
                        try clear hfz67_4
                        try clear hfz67_5
                        try clear hfz67_6
                        try clear hfz69_0
                        try clear hfz69_1
                        try clear hfz69_2
                        try clear hfz69_3
                        try clear hfz69_4
                        try clear hfz69_5
                        try clear hfz69_6
                        try clear hfz77_0
                        try clear hfz77_1
                        try clear hfz77_2
                        try clear hfz77_3
                        try clear hfz77_4
                        try clear hfz77_5
                        try clear hfz77_6
                        try clear hfz84_0
                        try clear hfz84_1
                        try clear hfz84_2
                        try clear hfz84_3
                        try clear hfz84_4
                        try clear hfz84_5
                        try clear hfz84_6
                        try clear hfz86_0
                        try clear hfz86_1
                        try clear hfz86_2
                        try clear hfz86_3
                        try clear hfz86_4
                        try clear hfz86_5
                        try clear hfz86_6
                        try clear hfz90_0
                        try clear hfz90_1
                        try clear hfz90_2
                        try clear hfz90_3
                        try clear hfz90_4
                        try clear hfz90_5
                        try clear hfz90_6
                        try clear hfz92_0
                        try clear hfz92_1
                        try clear hfz92_2
                        try clear hfz92_3
                        try clear hfz92_4
                        try clear hfz92_5
                        try clear hfz92_6
                        try clear p2
                        obtain ⟨kq, x84_64, rfl, HA, HJ64, HO_336003, HO_336004, HO_352003, HO_352004, HO_380003, HO_380004, BK335, BK351, BK379, HB⟩ := hcut
                        have hl352003_64 := (Kd.R_reads' HO_352003.out).1
                        rw [hl352003_64] at HO_352003
                        (try simp only [hl352003_64])
                        (try simp only [hl352003_64] at BK335)
                        (try simp only [hl352003_64] at BK351)
                        (try simp only [hl352003_64] at BK379)
                        (try simp only [hl352003_64] at HO_336003)
                        (try simp only [hl352003_64] at HO_336004)
                        (try simp only [hl352003_64] at HO_352004)
                        (try simp only [hl352003_64] at HO_380003)
                        (try simp only [hl352003_64] at HO_380004)
                        have hl352004_64 := (Kd.R_reads' HO_352004.out).1
                        rw [hl352004_64] at HO_352004
                        (try simp only [hl352004_64])
                        (try simp only [hl352004_64] at BK335)
                        (try simp only [hl352004_64] at BK351)
                        (try simp only [hl352004_64] at BK379)
                        (try simp only [hl352004_64] at HO_336003)
                        (try simp only [hl352004_64] at HO_336004)
                        (try simp only [hl352004_64] at HO_352003)
                        (try simp only [hl352004_64] at HO_380003)
                        (try simp only [hl352004_64] at HO_380004)
                        cases kq with
                        | zero => exact absurd HA.out (by simp [laws_FnExactOldFrom.j2])
                        | succ kj64 =>
                          have H := HA.out
                          clear HA
                          simp only [laws_FnExactOldFrom.j2] at H
                          by_cases c94 : x84_64 = true
                          · subst c94
                            have H1 : (some false) = some r := by rw [if_pos rfl] at H; exact H
                            clear H
                            have H := H1
                            clear H1
                            obtain rfl := Option.some.inj H
                            go_wp2
                            go_ret
                            exact ⟨by first | rfl | (simp [errW_none, errW_some] <;> rfl) | (simp [*, errW_none, errW_some] <;> rfl), by repeat (first | (with_reducible first | exact HB.out | apply below_alloc | apply pw_below_drewN | apply below_drew1 | refine below_set ?_ GE335.out | refine below_set ?_ GE351.out | refine below_set ?_ GE379.out) | exact HB.out)⟩
                          · replace c94 := Bool.eq_false_iff.mpr c94
                            subst c94
                            have H1 : ((laws_heldOld.f kj64 t339 t340 t341 t361 t362 t348 t349 1).bind fun t381 => (if t381 < 0 then (some false) else (if t381 = t360 then (some true) else (some false)))) = some r := by rw [if_neg (show ¬ (false = true) by decide)] at H; exact H
                            clear H
                            have H := H1
                            clear H1
                            replace H := Option.bind_eq_some_iff.mp H
                            obtain ⟨t381, A950, H⟩ := H
                            replace H : (if t381 < 0 then (some false) else (if t381 = t360 then (some true) else (some false))) = some r := H
                            have A95 := Aside0.mk A950
                            clear A950
                            by_cases c96 : t381 < 0
                            · rw [if_pos c96] at H
                              have c96b0 : decide (t381 < 0) = true := decide_eq_true c96
                              clear c96
                              obtain rfl := Option.some.inj H
                              have hnb97 := NB351_335.out
                              have hnc97 := NB335_351.out
                              have hnb98 := NB351_379.out
                              have hnc98 := NB379_351.out
                              have hcz99_0 : wc.cell? ⟨gb351, 0, none⟩ = some (.int .i64 t339) := (blk_cell BK351.out 0).trans rfl
                              have hcz99_1 : wc.cell? ⟨gb351, 1, none⟩ = some (.bool t340) := (blk_cell BK351.out 1).trans rfl
                              have hcz99_2 : wc.cell? ⟨gb351, 2, none⟩ = some (.int .i64 t341) := (blk_cell BK351.out 2).trans rfl
                              have hcz99_3 : wc.cell? ⟨gb351, 3, none⟩ = some (.slice Ao21 t361.length co21) := (blk_cell BK351.out 3).trans rfl
                              have hcz99_4 : wc.cell? ⟨gb351, 4, none⟩ = some (.slice Ao22 t362.length co22) := (blk_cell BK351.out 4).trans rfl
                              have hcz99_5 : wc.cell? ⟨gb351, 5, none⟩ = some (.bool t348) := (blk_cell BK351.out 5).trans rfl
                              have hcz99_6 : wc.cell? ⟨gb351, 6, none⟩ = some (.bool t349) := (blk_cell BK351.out 6).trans rfl
                              have hfz99_0 := blk_frozen BK351.out 0
                              have hfz99_1 := blk_frozen BK351.out 1
                              have hfz99_2 := blk_frozen BK351.out 2
                              have hfz99_3 := blk_frozen BK351.out 3
                              have hfz99_4 := blk_frozen BK351.out 4
                              have hfz99_5 := blk_frozen BK351.out 5
                              have hfz99_6 := blk_frozen BK351.out 6
                              go_wp2_with (first | ((with_reducible refine gate_callee (f := 46) rfl ?_); refine goesL_ (some 87) rfl rfl Try.func46 (by kernel_rfl) rfl #[.agg #[.int .i64 t339, .bool t340, .int .i64 t341, .slice Ao21 t361.length co21, .slice Ao22 t362.length co22, .bool t348, .bool t349], .int .i64 1] rfl (by (try simp only [List.map_toArray, List.map_cons, List.map_nil]); first | done | rfl | (simp only [List.length_drop, List.length_take]; rfl)) ?_; (with_reducible refine (laws_heldOld.calls kj64 t339 t340 t341 _ _ t361 _ _ t362 t348 t349 1 t381 _ ?side1 ?side2 ?side3 ?side4 A95.out).mono ?_); (case side1 => repeat (first | exact (Kd.R_reads' HO_352003.out).2.2 | (with_reducible refine Kd.C_alloc ?_ _) | (with_reducible refine Kd.C_drewN ?_ _) | (with_reducible refine Kd.C_drew ?_))); (case side2 => exact (Kd.R_reads' HO_352003.out).2.1); (case side3 => repeat (first | exact (Kd.R_reads' HO_352004.out).2.2 | (with_reducible refine Kd.C_alloc ?_ _) | (with_reducible refine Kd.C_drewN ?_ _) | (with_reducible refine Kd.C_drew ?_))); (case side4 => exact (Kd.R_reads' HO_352004.out).2.1); rintro e w100 ⟨rfl, hb⟩; refine ⟨_, rfl, ?_⟩; have n0_ := Aside0.mk (Kd.R_below (by (with_reducible repeat (first | apply Kd.R_alloc | apply Kd.R_drewN | apply Kd.R_drew)); exact HO_336003.out) hb); have n1_ := Aside0.mk (Kd.R_below (by (with_reducible repeat (first | apply Kd.R_alloc | apply Kd.R_drewN | apply Kd.R_drew)); exact HO_336004.out) hb); have n2_ := Aside0.mk (Kd.R_below (by (with_reducible repeat (first | apply Kd.R_alloc | apply Kd.R_drewN | apply Kd.R_drew)); exact HO_352003.out) hb); have n3_ := Aside0.mk (Kd.R_below (by (with_reducible repeat (first | apply Kd.R_alloc | apply Kd.R_drewN | apply Kd.R_drew)); exact HO_352004.out) hb); have n4_ := Aside0.mk (Kd.R_below (by (with_reducible repeat (first | apply Kd.R_alloc | apply Kd.R_drewN | apply Kd.R_drew)); exact HO_380003.out) hb); have n5_ := Aside0.mk (Kd.R_below (by (with_reducible repeat (first | apply Kd.R_alloc | apply Kd.R_drewN | apply Kd.R_drew)); exact HO_380004.out) hb); have n6_ := Aside0.mk (blk_below (g := gb335) (o := .cells #[.int .i64 t323, .bool t324, .int .i64 t325, .slice Ao13 t326.length co13, .slice Ao14 t329.length co14, .bool t332, .bool t333] 26 (0, 0)) (by (with_reducible repeat (first | refine blk_drewN ?_ _ | refine blk_drew ?_ | refine blk_alloc ?_ _)); exact BK335.out) hb); have n7_ := Aside0.mk (blk_below (g := gb351) (o := .cells #[.int .i64 t339, .bool t340, .int .i64 t341, .slice Ao21 t361.length co21, .slice Ao22 t362.length co22, .bool t348, .bool t349] 26 (0, 0)) (by (with_reducible repeat (first | refine blk_drewN ?_ _ | refine blk_drew ?_ | refine blk_alloc ?_ _)); exact BK351.out) hb); have n8_ := Aside0.mk (blk_below (g := gb379) (o := .cells #[.int .i64 t367, .bool t368, .int .i64 t369, .slice Ao78 t370.length co78, .slice Ao79 t373.length co79, .bool t376, .bool t377] 26 (0, 0)) (by (with_reducible repeat (first | refine blk_drewN ?_ _ | refine blk_drew ?_ | refine blk_alloc ?_ _)); exact BK379.out) hb); have n9_ := Aside0.mk (below_step (by repeat (first | (with_reducible first | exact HB.out | apply below_alloc | apply pw_below_drewN | apply below_drew1 | refine below_set ?_ GE335.out | refine below_set ?_ GE351.out | refine below_set ?_ GE379.out) | exact HB.out)) hb); clear HO_336003; clear HO_336004; clear HO_352003; clear HO_352004; clear HO_380003; clear HO_380004; clear BK335; clear BK351; clear BK379; clear HB; have HO_336003 := n0_; have HO_336004 := n1_; have HO_352003 := n2_; have HO_352004 := n3_; have HO_380003 := n4_; have HO_380004 := n5_; have BK335 := n6_; have BK351 := n7_; have BK379 := n8_; have HB := n9_; clear n0_ n1_ n2_ n3_ n4_ n5_ n6_ n7_ n8_ n9_; (try clear hb); (try clear hb2); (try clear hk); (try clear hi)))
                              go_ret
                              exact ⟨by first | rfl | (simp [errW_none, errW_some] <;> rfl) | (simp [*, errW_none, errW_some] <;> rfl), by repeat (first | (with_reducible first | exact HB.out | apply below_alloc | apply pw_below_drewN | apply below_drew1 | refine below_set ?_ GE335.out | refine below_set ?_ GE351.out | refine below_set ?_ GE379.out) | exact HB.out)⟩
                            · rw [if_neg c96] at H
                              have c96b0 : decide (t381 < 0) = false := decide_eq_false c96
                              clear c96
                              by_cases c101 : t381 = t360
                              · rw [if_pos c101] at H
                                have c101b0 : (t381 == t360) = true := beq_iff_eq.mpr c101
                                have c101b1 : (t381 != t360) = false := bne_eq_false_iff_eq.mpr c101
                                clear c101
                                obtain rfl := Option.some.inj H
                                have hnb102 := NB351_335.out
                                have hnc102 := NB335_351.out
                                have hnb103 := NB351_379.out
                                have hnc103 := NB379_351.out
                                have hcz104_0 : wc.cell? ⟨gb351, 0, none⟩ = some (.int .i64 t339) := (blk_cell BK351.out 0).trans rfl
                                have hcz104_1 : wc.cell? ⟨gb351, 1, none⟩ = some (.bool t340) := (blk_cell BK351.out 1).trans rfl
                                have hcz104_2 : wc.cell? ⟨gb351, 2, none⟩ = some (.int .i64 t341) := (blk_cell BK351.out 2).trans rfl
                                have hcz104_3 : wc.cell? ⟨gb351, 3, none⟩ = some (.slice Ao21 t361.length co21) := (blk_cell BK351.out 3).trans rfl
                                have hcz104_4 : wc.cell? ⟨gb351, 4, none⟩ = some (.slice Ao22 t362.length co22) := (blk_cell BK351.out 4).trans rfl
                                have hcz104_5 : wc.cell? ⟨gb351, 5, none⟩ = some (.bool t348) := (blk_cell BK351.out 5).trans rfl
                                have hcz104_6 : wc.cell? ⟨gb351, 6, none⟩ = some (.bool t349) := (blk_cell BK351.out 6).trans rfl
                                have hfz104_0 := blk_frozen BK351.out 0
                                have hfz104_1 := blk_frozen BK351.out 1
                                have hfz104_2 := blk_frozen BK351.out 2
                                have hfz104_3 := blk_frozen BK351.out 3
                                have hfz104_4 := blk_frozen BK351.out 4
                                have hfz104_5 := blk_frozen BK351.out 5
                                have hfz104_6 := blk_frozen BK351.out 6
                                go_wp2_with (first | ((with_reducible refine gate_callee (f := 46) rfl ?_); refine goesL_ (some 87) rfl rfl Try.func46 (by kernel_rfl) rfl #[.agg #[.int .i64 t339, .bool t340, .int .i64 t341, .slice Ao21 t361.length co21, .slice Ao22 t362.length co22, .bool t348, .bool t349], .int .i64 1] rfl (by (try simp only [List.map_toArray, List.map_cons, List.map_nil]); first | done | rfl | (simp only [List.length_drop, List.length_take]; rfl)) ?_; (with_reducible refine (laws_heldOld.calls kj64 t339 t340 t341 _ _ t361 _ _ t362 t348 t349 1 t381 _ ?side1 ?side2 ?side3 ?side4 A95.out).mono ?_); (case side1 => repeat (first | exact (Kd.R_reads' HO_352003.out).2.2 | (with_reducible refine Kd.C_alloc ?_ _) | (with_reducible refine Kd.C_drewN ?_ _) | (with_reducible refine Kd.C_drew ?_))); (case side2 => exact (Kd.R_reads' HO_352003.out).2.1); (case side3 => repeat (first | exact (Kd.R_reads' HO_352004.out).2.2 | (with_reducible refine Kd.C_alloc ?_ _) | (with_reducible refine Kd.C_drewN ?_ _) | (with_reducible refine Kd.C_drew ?_))); (case side4 => exact (Kd.R_reads' HO_352004.out).2.1); rintro e w105 ⟨rfl, hb⟩; refine ⟨_, rfl, ?_⟩; have n0_ := Aside0.mk (Kd.R_below (by (with_reducible repeat (first | apply Kd.R_alloc | apply Kd.R_drewN | apply Kd.R_drew)); exact HO_336003.out) hb); have n1_ := Aside0.mk (Kd.R_below (by (with_reducible repeat (first | apply Kd.R_alloc | apply Kd.R_drewN | apply Kd.R_drew)); exact HO_336004.out) hb); have n2_ := Aside0.mk (Kd.R_below (by (with_reducible repeat (first | apply Kd.R_alloc | apply Kd.R_drewN | apply Kd.R_drew)); exact HO_352003.out) hb); have n3_ := Aside0.mk (Kd.R_below (by (with_reducible repeat (first | apply Kd.R_alloc | apply Kd.R_drewN | apply Kd.R_drew)); exact HO_352004.out) hb); have n4_ := Aside0.mk (Kd.R_below (by (with_reducible repeat (first | apply Kd.R_alloc | apply Kd.R_drewN | apply Kd.R_drew)); exact HO_380003.out) hb); have n5_ := Aside0.mk (Kd.R_below (by (with_reducible repeat (first | apply Kd.R_alloc | apply Kd.R_drewN | apply Kd.R_drew)); exact HO_380004.out) hb); have n6_ := Aside0.mk (blk_below (g := gb335) (o := .cells #[.int .i64 t323, .bool t324, .int .i64 t325, .slice Ao13 t326.length co13, .slice Ao14 t329.length co14, .bool t332, .bool t333] 26 (0, 0)) (by (with_reducible repeat (first | refine blk_drewN ?_ _ | refine blk_drew ?_ | refine blk_alloc ?_ _)); exact BK335.out) hb); have n7_ := Aside0.mk (blk_below (g := gb351) (o := .cells #[.int .i64 t339, .bool t340, .int .i64 t341, .slice Ao21 t361.length co21, .slice Ao22 t362.length co22, .bool t348, .bool t349] 26 (0, 0)) (by (with_reducible repeat (first | refine blk_drewN ?_ _ | refine blk_drew ?_ | refine blk_alloc ?_ _)); exact BK351.out) hb); have n8_ := Aside0.mk (blk_below (g := gb379) (o := .cells #[.int .i64 t367, .bool t368, .int .i64 t369, .slice Ao78 t370.length co78, .slice Ao79 t373.length co79, .bool t376, .bool t377] 26 (0, 0)) (by (with_reducible repeat (first | refine blk_drewN ?_ _ | refine blk_drew ?_ | refine blk_alloc ?_ _)); exact BK379.out) hb); have n9_ := Aside0.mk (below_step (by repeat (first | (with_reducible first | exact HB.out | apply below_alloc | apply pw_below_drewN | apply below_drew1 | refine below_set ?_ GE335.out | refine below_set ?_ GE351.out | refine below_set ?_ GE379.out) | exact HB.out)) hb); clear HO_336003; clear HO_336004; clear HO_352003; clear HO_352004; clear HO_380003; clear HO_380004; clear BK335; clear BK351; clear BK379; clear HB; have HO_336003 := n0_; have HO_336004 := n1_; have HO_352003 := n2_; have HO_352004 := n3_; have HO_380003 := n4_; have HO_380004 := n5_; have BK335 := n6_; have BK351 := n7_; have BK379 := n8_; have HB := n9_; clear n0_ n1_ n2_ n3_ n4_ n5_ n6_ n7_ n8_ n9_; (try clear hb); (try clear hb2); (try clear hk); (try clear hi)))
                                go_ret
                                exact ⟨by first | rfl | (simp [errW_none, errW_some] <;> rfl) | (simp [*, errW_none, errW_some] <;> rfl), by repeat (first | (with_reducible first | exact HB.out | apply below_alloc | apply pw_below_drewN | apply below_drew1 | refine below_set ?_ GE335.out | refine below_set ?_ GE351.out | refine below_set ?_ GE379.out) | exact HB.out)⟩
                              · rw [if_neg c101] at H
                                have c101b0 : (t381 == t360) = false := beq_eq_false_iff_ne.mpr c101
                                have c101b1 : (t381 != t360) = true := bne_iff_ne.mpr c101
                                obtain rfl := Option.some.inj H
                                have hnb106 := NB351_335.out
                                have hnc106 := NB335_351.out
                                have hnb107 := NB351_379.out
                                have hnc107 := NB379_351.out
                                have hcz108_0 : wc.cell? ⟨gb351, 0, none⟩ = some (.int .i64 t339) := (blk_cell BK351.out 0).trans rfl
                                have hcz108_1 : wc.cell? ⟨gb351, 1, none⟩ = some (.bool t340) := (blk_cell BK351.out 1).trans rfl
                                have hcz108_2 : wc.cell? ⟨gb351, 2, none⟩ = some (.int .i64 t341) := (blk_cell BK351.out 2).trans rfl
                                have hcz108_3 : wc.cell? ⟨gb351, 3, none⟩ = some (.slice Ao21 t361.length co21) := (blk_cell BK351.out 3).trans rfl
                                have hcz108_4 : wc.cell? ⟨gb351, 4, none⟩ = some (.slice Ao22 t362.length co22) := (blk_cell BK351.out 4).trans rfl
                                have hcz108_5 : wc.cell? ⟨gb351, 5, none⟩ = some (.bool t348) := (blk_cell BK351.out 5).trans rfl
                                have hcz108_6 : wc.cell? ⟨gb351, 6, none⟩ = some (.bool t349) := (blk_cell BK351.out 6).trans rfl
                                have hfz108_0 := blk_frozen BK351.out 0
                                have hfz108_1 := blk_frozen BK351.out 1
                                have hfz108_2 := blk_frozen BK351.out 2
                                have hfz108_3 := blk_frozen BK351.out 3
                                have hfz108_4 := blk_frozen BK351.out 4
                                have hfz108_5 := blk_frozen BK351.out 5
                                have hfz108_6 := blk_frozen BK351.out 6
                                go_wp2_with (first | ((with_reducible refine gate_callee (f := 46) rfl ?_); refine goesL_ (some 87) rfl rfl Try.func46 (by kernel_rfl) rfl #[.agg #[.int .i64 t339, .bool t340, .int .i64 t341, .slice Ao21 t361.length co21, .slice Ao22 t362.length co22, .bool t348, .bool t349], .int .i64 1] rfl (by (try simp only [List.map_toArray, List.map_cons, List.map_nil]); first | done | rfl | (simp only [List.length_drop, List.length_take]; rfl)) ?_; (with_reducible refine (laws_heldOld.calls kj64 t339 t340 t341 _ _ t361 _ _ t362 t348 t349 1 t381 _ ?side1 ?side2 ?side3 ?side4 A95.out).mono ?_); (case side1 => repeat (first | exact (Kd.R_reads' HO_352003.out).2.2 | (with_reducible refine Kd.C_alloc ?_ _) | (with_reducible refine Kd.C_drewN ?_ _) | (with_reducible refine Kd.C_drew ?_))); (case side2 => exact (Kd.R_reads' HO_352003.out).2.1); (case side3 => repeat (first | exact (Kd.R_reads' HO_352004.out).2.2 | (with_reducible refine Kd.C_alloc ?_ _) | (with_reducible refine Kd.C_drewN ?_ _) | (with_reducible refine Kd.C_drew ?_))); (case side4 => exact (Kd.R_reads' HO_352004.out).2.1); rintro e w109 ⟨rfl, hb⟩; refine ⟨_, rfl, ?_⟩; have n0_ := Aside0.mk (Kd.R_below (by (with_reducible repeat (first | apply Kd.R_alloc | apply Kd.R_drewN | apply Kd.R_drew)); exact HO_336003.out) hb); have n1_ := Aside0.mk (Kd.R_below (by (with_reducible repeat (first | apply Kd.R_alloc | apply Kd.R_drewN | apply Kd.R_drew)); exact HO_336004.out) hb); have n2_ := Aside0.mk (Kd.R_below (by (with_reducible repeat (first | apply Kd.R_alloc | apply Kd.R_drewN | apply Kd.R_drew)); exact HO_352003.out) hb); have n3_ := Aside0.mk (Kd.R_below (by (with_reducible repeat (first | apply Kd.R_alloc | apply Kd.R_drewN | apply Kd.R_drew)); exact HO_352004.out) hb); have n4_ := Aside0.mk (Kd.R_below (by (with_reducible repeat (first | apply Kd.R_alloc | apply Kd.R_drewN | apply Kd.R_drew)); exact HO_380003.out) hb); have n5_ := Aside0.mk (Kd.R_below (by (with_reducible repeat (first | apply Kd.R_alloc | apply Kd.R_drewN | apply Kd.R_drew)); exact HO_380004.out) hb); have n6_ := Aside0.mk (blk_below (g := gb335) (o := .cells #[.int .i64 t323, .bool t324, .int .i64 t325, .slice Ao13 t326.length co13, .slice Ao14 t329.length co14, .bool t332, .bool t333] 26 (0, 0)) (by (with_reducible repeat (first | refine blk_drewN ?_ _ | refine blk_drew ?_ | refine blk_alloc ?_ _)); exact BK335.out) hb); have n7_ := Aside0.mk (blk_below (g := gb351) (o := .cells #[.int .i64 t339, .bool t340, .int .i64 t341, .slice Ao21 t361.length co21, .slice Ao22 t362.length co22, .bool t348, .bool t349] 26 (0, 0)) (by (with_reducible repeat (first | refine blk_drewN ?_ _ | refine blk_drew ?_ | refine blk_alloc ?_ _)); exact BK351.out) hb); have n8_ := Aside0.mk (blk_below (g := gb379) (o := .cells #[.int .i64 t367, .bool t368, .int .i64 t369, .slice Ao78 t370.length co78, .slice Ao79 t373.length co79, .bool t376, .bool t377] 26 (0, 0)) (by (with_reducible repeat (first | refine blk_drewN ?_ _ | refine blk_drew ?_ | refine blk_alloc ?_ _)); exact BK379.out) hb); have n9_ := Aside0.mk (below_step (by repeat (first | (with_reducible first | exact HB.out | apply below_alloc | apply pw_below_drewN | apply below_drew1 | refine below_set ?_ GE335.out | refine below_set ?_ GE351.out | refine below_set ?_ GE379.out) | exact HB.out)) hb); clear HO_336003; clear HO_336004; clear HO_352003; clear HO_352004; clear HO_380003; clear HO_380004; clear BK335; clear BK351; clear BK379; clear HB; have HO_336003 := n0_; have HO_336004 := n1_; have HO_352003 := n2_; have HO_352004 := n3_; have HO_380003 := n4_; have HO_380004 := n5_; have BK335 := n6_; have BK351 := n7_; have BK379 := n8_; have HB := n9_; clear n0_ n1_ n2_ n3_ n4_ n5_ n6_ n7_ n8_ n9_; (try clear hb); (try clear hb2); (try clear hk); (try clear hi)))
                                go_ret
                                exact ⟨by first | rfl | (simp [errW_none, errW_some] <;> rfl) | (simp [*, errW_none, errW_some] <;> rfl), by repeat (first | (with_reducible first | exact HB.out | apply below_alloc | apply pw_below_drewN | apply below_drew1 | refine below_set ?_ GE335.out | refine below_set ?_ GE351.out | refine below_set ?_ GE379.out) | exact HB.out)⟩
                    · rw [if_neg c62] at H
                      have c62b0 : (t363 == t360) = false := beq_eq_false_iff_ne.mpr c62
                      have c62b1 : (t363 != t360) = true := bne_iff_ne.mpr c62
                      obtain rfl := Option.some.inj H
                      have hnb110 := NB351_335.out
                      have hnc110 := NB335_351.out
                      have hcz111_0 : wc.cell? ⟨gb351, 0, none⟩ = some (.int .i64 t339) := (blk_cell BK351.out 0).trans rfl
                      have hcz111_1 : wc.cell? ⟨gb351, 1, none⟩ = some (.bool t340) := (blk_cell BK351.out 1).trans rfl
                      have hcz111_2 : wc.cell? ⟨gb351, 2, none⟩ = some (.int .i64 t341) := (blk_cell BK351.out 2).trans rfl
                      have hcz111_3 : wc.cell? ⟨gb351, 3, none⟩ = some (.slice Ao21 t342.length co21) := (blk_cell BK351.out 3).trans rfl
                      have hcz111_4 : wc.cell? ⟨gb351, 4, none⟩ = some (.slice Ao22 t345.length co22) := (blk_cell BK351.out 4).trans rfl
                      have hcz111_5 : wc.cell? ⟨gb351, 5, none⟩ = some (.bool t348) := (blk_cell BK351.out 5).trans rfl
                      have hcz111_6 : wc.cell? ⟨gb351, 6, none⟩ = some (.bool t349) := (blk_cell BK351.out 6).trans rfl
                      have hfz111_0 := blk_frozen BK351.out 0
                      have hfz111_1 := blk_frozen BK351.out 1
                      have hfz111_2 := blk_frozen BK351.out 2
                      have hfz111_3 := blk_frozen BK351.out 3
                      have hfz111_4 := blk_frozen BK351.out 4
                      have hfz111_5 := blk_frozen BK351.out 5
                      have hfz111_6 := blk_frozen BK351.out 6
                      go_wp2_with (first | ((with_reducible refine gate_callee (f := 42) rfl ?_); refine goesL_ (some 61) rfl rfl Try.func42 (by kernel_rfl) rfl #[.agg #[.int .i64 t339, .bool t340, .int .i64 t341, .slice Ao21 t342.length co21, .slice Ao22 t345.length co22, .bool t348, .bool t349], .int .i64 1] rfl (by (try simp only [List.map_toArray, List.map_cons, List.map_nil]); first | done | rfl | (simp only [List.length_drop, List.length_take]; rfl)) ?_; (with_reducible refine (laws_markOld.calls kj37 t339 t340 t341 (fun k_ => some k_ = (.slice Ao21 t342.length co21 : Value).ownBlock) (.slice Ao21 t342.length co21) t342 (fun k_ => some k_ = (.slice Ao22 t345.length co22 : Value).ownBlock) (.slice Ao22 t345.length co22) t345 t348 t349 1 t360 t361 t362 w _ ?side1 ?side2 ?side3 ?side4 ?side5 A54.out).mono ?_); (case side1 => repeat (first | (with_reducible first | exact HB.out | apply below_alloc | apply pw_below_drewN | apply below_drew1 | refine below_set ?_ GE335.out | refine below_set ?_ GE351.out) | exact HB.out)); (case side2 => exact Kd.R_tight rfl HO_352003.out); (case side3 => exact fun k_ e_ => (HO_352003.out.1 k_ e_.symm).2.2); (case side4 => exact Kd.R_tight rfl HO_352004.out); (case side5 => exact fun k_ e_ => (HO_352004.out.1 k_ e_.symm).2.2); rintro e w112 ⟨rfl, hy0, hy1, hb, hkp⟩; refine ⟨_, rfl, ?_⟩; have n0_ := Aside0.mk (Kd.R_mono (ok' := fun k_ => some k_ ≠ (.slice Ao14 t329.length co14 : Value).ownBlock ∧ some k_ ≠ (.slice Ao21 t342.length co21 : Value).ownBlock ∧ some k_ ≠ (.slice Ao22 t345.length co22 : Value).ownBlock) (Kd.R_keptB (HO_336003.out) hkp (fun k_ hk_ hs_ => Or.elim hs_ (fun e_ => (hk_.2.1) e_) (fun e_ => (hk_.2.2) e_))) (fun k_ hk_ => ⟨hk_.1.1, hk_.1.2.1, hk_.1.2.2⟩)); have n1_ := Aside0.mk (Kd.R_mono (ok' := fun k_ => some k_ ≠ (.slice Ao13 t326.length co13 : Value).ownBlock ∧ some k_ ≠ (.slice Ao21 t342.length co21 : Value).ownBlock ∧ some k_ ≠ (.slice Ao22 t345.length co22 : Value).ownBlock) (Kd.R_keptB (HO_336004.out) hkp (fun k_ hk_ hs_ => Or.elim hs_ (fun e_ => (hk_.2.1) e_) (fun e_ => (hk_.2.2) e_))) (fun k_ hk_ => ⟨hk_.1.1, hk_.1.2.1, hk_.1.2.2⟩)); have n2_ := Aside0.mk (Kd.R_reok rfl hy0 (fun k_ e_ => HO_352003.out.1 k_ e_)); have n3_ := Aside0.mk (Kd.R_reok rfl hy1 (fun k_ e_ => HO_352004.out.1 k_ e_)); have n4_ := Aside0.mk (blk_kept (by (with_reducible repeat (first | refine blk_drewN ?_ _ | refine blk_drew ?_ | refine blk_alloc ?_ _)); exact BK335.out) hkp (fun hs_ => Or.elim hs_ (fun e_ => (fun e_ => (Kd.R_ne HO_352003.out BK335.out (by decide)) e_) e_) (fun e_ => (fun e_ => (Kd.R_ne HO_352004.out BK335.out (by decide)) e_) e_))); have n5_ := Aside0.mk (blk_kept (by (with_reducible repeat (first | refine blk_drewN ?_ _ | refine blk_drew ?_ | refine blk_alloc ?_ _)); exact BK351.out) hkp (fun hs_ => Or.elim hs_ (fun e_ => (fun e_ => (Kd.R_ne HO_352003.out BK351.out (by decide)) e_) e_) (fun e_ => (fun e_ => (Kd.R_ne HO_352004.out BK351.out (by decide)) e_) e_))); have n6_ := Aside0.mk (hb); clear HO_336003; clear HO_336004; clear HO_352003; clear HO_352004; clear BK335; clear BK351; clear HB; have HO_336003 := n0_; have HO_336004 := n1_; have HO_352003 := n2_; have HO_352004 := n3_; have BK335 := n4_; have BK351 := n5_; have HB := n6_; clear n0_ n1_ n2_ n3_ n4_ n5_ n6_; (try clear hb); (try clear hkp); (try clear hy0); (try clear hy1); have hcz113_0 : w112.cell? ⟨gb351, 0, none⟩ = some (.int .i64 t339) := (blk_cell BK351.out 0).trans rfl; have hcz113_1 : w112.cell? ⟨gb351, 1, none⟩ = some (.bool t340) := (blk_cell BK351.out 1).trans rfl; have hcz113_2 : w112.cell? ⟨gb351, 2, none⟩ = some (.int .i64 t341) := (blk_cell BK351.out 2).trans rfl; have hcz113_3 : w112.cell? ⟨gb351, 3, none⟩ = some (.slice Ao21 t342.length co21) := (blk_cell BK351.out 3).trans rfl; have hcz113_4 : w112.cell? ⟨gb351, 4, none⟩ = some (.slice Ao22 t345.length co22) := (blk_cell BK351.out 4).trans rfl; have hcz113_5 : w112.cell? ⟨gb351, 5, none⟩ = some (.bool t348) := (blk_cell BK351.out 5).trans rfl; have hcz113_6 : w112.cell? ⟨gb351, 6, none⟩ = some (.bool t349) := (blk_cell BK351.out 6).trans rfl; have hfz113_0 := blk_frozen BK351.out 0; have hfz113_1 := blk_frozen BK351.out 1; have hfz113_2 := blk_frozen BK351.out 2; have hfz113_3 := blk_frozen BK351.out 3; have hfz113_4 := blk_frozen BK351.out 4; have hfz113_5 := blk_frozen BK351.out 5; have hfz113_6 := blk_frozen BK351.out 6) | ((with_reducible refine gate_callee (f := 46) rfl ?_); refine goesL_ (some 64) rfl rfl Try.func46 (by kernel_rfl) rfl #[.agg #[.int .i64 t339, .bool t340, .int .i64 t341, .slice Ao21 t361.length co21, .slice Ao22 t362.length co22, .bool t348, .bool t349], .int .i64 1] rfl (by (try simp only [List.map_toArray, List.map_cons, List.map_nil]); first | done | (rw [show t361.length = t342.length from (Kd.R_reads' HO_352003.out).1.symm, show t362.length = t345.length from (Kd.R_reads' HO_352004.out).1.symm] <;> rfl) | rfl | (simp only [List.length_drop, List.length_take]; rfl)) ?_; (with_reducible refine (laws_heldOld.calls kj37 t339 t340 t341 _ _ t361 _ _ t362 t348 t349 1 t363 _ ?side1 ?side2 ?side3 ?side4 A55.out).mono ?_); (case side1 => repeat (first | exact (Kd.R_reads' HO_352003.out).2.2 | (with_reducible refine Kd.C_alloc ?_ _) | (with_reducible refine Kd.C_drewN ?_ _) | (with_reducible refine Kd.C_drew ?_))); (case side2 => rw [show t361.length = t342.length from (Kd.R_reads' HO_352003.out).1.symm]; exact (Kd.R_reads' HO_352003.out).2.1); (case side3 => repeat (first | exact (Kd.R_reads' HO_352004.out).2.2 | (with_reducible refine Kd.C_alloc ?_ _) | (with_reducible refine Kd.C_drewN ?_ _) | (with_reducible refine Kd.C_drew ?_))); (case side4 => rw [show t362.length = t345.length from (Kd.R_reads' HO_352004.out).1.symm]; exact (Kd.R_reads' HO_352004.out).2.1); rintro e w114 ⟨rfl, hb⟩; refine ⟨_, rfl, ?_⟩; have n0_ := Aside0.mk (Kd.R_below (by (with_reducible repeat (first | apply Kd.R_alloc | apply Kd.R_drewN | apply Kd.R_drew)); exact HO_336003.out) hb); have n1_ := Aside0.mk (Kd.R_below (by (with_reducible repeat (first | apply Kd.R_alloc | apply Kd.R_drewN | apply Kd.R_drew)); exact HO_336004.out) hb); have n2_ := Aside0.mk (Kd.R_below (by (with_reducible repeat (first | apply Kd.R_alloc | apply Kd.R_drewN | apply Kd.R_drew)); exact HO_352003.out) hb); have n3_ := Aside0.mk (Kd.R_below (by (with_reducible repeat (first | apply Kd.R_alloc | apply Kd.R_drewN | apply Kd.R_drew)); exact HO_352004.out) hb); have n4_ := Aside0.mk (blk_below (g := gb335) (o := .cells #[.int .i64 t323, .bool t324, .int .i64 t325, .slice Ao13 t326.length co13, .slice Ao14 t329.length co14, .bool t332, .bool t333] 26 (0, 0)) (by (with_reducible repeat (first | refine blk_drewN ?_ _ | refine blk_drew ?_ | refine blk_alloc ?_ _)); exact BK335.out) hb); have n5_ := Aside0.mk (blk_below (g := gb351) (o := .cells #[.int .i64 t339, .bool t340, .int .i64 t341, .slice Ao21 t342.length co21, .slice Ao22 t345.length co22, .bool t348, .bool t349] 26 (0, 0)) (by (with_reducible repeat (first | refine blk_drewN ?_ _ | refine blk_drew ?_ | refine blk_alloc ?_ _)); exact BK351.out) hb); have n6_ := Aside0.mk (below_step (by repeat (first | (with_reducible first | exact HB.out | apply below_alloc | apply pw_below_drewN | apply below_drew1 | refine below_set ?_ GE335.out | refine below_set ?_ GE351.out) | exact HB.out)) hb); clear HO_336003; clear HO_336004; clear HO_352003; clear HO_352004; clear BK335; clear BK351; clear HB; have HO_336003 := n0_; have HO_336004 := n1_; have HO_352003 := n2_; have HO_352004 := n3_; have BK335 := n4_; have BK351 := n5_; have HB := n6_; clear n0_ n1_ n2_ n3_ n4_ n5_ n6_; (try clear hb); (try clear hb2); (try clear hk); (try clear hi)))
                      go_ret
                      exact ⟨by first | rfl | (simp [errW_none, errW_some] <;> rfl) | (simp [*, errW_none, errW_some] <;> rfl), by repeat (first | (with_reducible first | exact HB.out | apply below_alloc | apply pw_below_drewN | apply below_drew1 | refine below_set ?_ GE335.out | refine below_set ?_ GE351.out) | exact HB.out)⟩
          · replace c36 := Bool.eq_false_iff.mpr c36
            subst c36
            have H1 : (some false) = some r := by rw [if_neg (show ¬ (false = true) by decide)] at H; exact H
            clear H
            have H := H1
            clear H1
            obtain rfl := Option.some.inj H
            go_wp2_with (first | ((with_reducible refine gate_callee (f := 45) rfl ?_); refine goesL_ (some 40) rfl rfl Try.func45 (by kernel_rfl) rfl #[.slice A0 l0.length c0] rfl (by (try simp only [List.map_toArray, List.map_cons, List.map_nil]); first | done | rfl | (simp only [List.length_drop, List.length_take]; rfl)) ?_; (with_reducible refine (laws_toIntS.calls kj6 _ _ l0 t353 _ ?side1 ?side2 A34.out).mono ?_); (case side1 => repeat (first | exact (Kd.C_below HR0.out HB.out) | (with_reducible refine Kd.C_alloc ?_ _) | (with_reducible refine Kd.C_drewN ?_ _) | (with_reducible refine Kd.C_drew ?_))); (case side2 => exact HC0.out); rintro e w115 ⟨v354, rfl, ho0, hb⟩; refine ⟨_, rfl, ?_⟩; have n0_ := Aside0.mk (Kd.R_elder' (by (with_reducible repeat (first | apply Kd.R_alloc | apply Kd.R_drewN | apply Kd.R_drew)); exact HO_5.out) (Kd.R_base ho0) hb); have n1_ := Aside0.mk (Kd.R_elder' (by (with_reducible repeat (first | apply Kd.R_alloc | apply Kd.R_drewN | apply Kd.R_drew)); exact HO_336003.out) (Kd.R_base ho0) hb); have n2_ := Aside0.mk (Kd.R_elder' (by (with_reducible repeat (first | apply Kd.R_alloc | apply Kd.R_drewN | apply Kd.R_drew)); exact HO_336004.out) (Kd.R_base ho0) hb); have n3_ := Aside0.mk (Kd.R_elder' (by (with_reducible repeat (first | apply Kd.R_alloc | apply Kd.R_drewN | apply Kd.R_drew)); exact HO_352003.out) (Kd.R_base ho0) hb); have n4_ := Aside0.mk (Kd.R_elder' (by (with_reducible repeat (first | apply Kd.R_alloc | apply Kd.R_drewN | apply Kd.R_drew)); exact HO_352004.out) (Kd.R_base ho0) hb); have n5_ := Aside0.mk (Kd.R_lower (Kd.R_new' (Kd.R_new' (Kd.R_new' (Kd.R_new' (Kd.R_new' ho0 (Kd.R_lt (by (with_reducible repeat (first | apply Kd.R_alloc | apply Kd.R_drewN | apply Kd.R_drew)); exact HO_5.out))) (Kd.R_lt (by (with_reducible repeat (first | apply Kd.R_alloc | apply Kd.R_drewN | apply Kd.R_drew)); exact HO_336003.out))) (Kd.R_lt (by (with_reducible repeat (first | apply Kd.R_alloc | apply Kd.R_drewN | apply Kd.R_drew)); exact HO_336004.out))) (Kd.R_lt (by (with_reducible repeat (first | apply Kd.R_alloc | apply Kd.R_drewN | apply Kd.R_drew)); exact HO_352003.out))) (Kd.R_lt (by (with_reducible repeat (first | apply Kd.R_alloc | apply Kd.R_drewN | apply Kd.R_drew)); exact HO_352004.out))) (below_size (by repeat (first | (with_reducible first | exact HB.out | apply below_alloc | apply pw_below_drewN | apply below_drew1 | refine below_set ?_ GE335.out | refine below_set ?_ GE351.out) | exact HB.out)))); have n6_ := Aside0.mk (blk_below (g := gb335) (o := .cells #[.int .i64 t323, .bool t324, .int .i64 t325, .slice Ao13 t326.length co13, .slice Ao14 t329.length co14, .bool t332, .bool t333] 26 (0, 0)) (by (with_reducible repeat (first | refine blk_drewN ?_ _ | refine blk_drew ?_ | refine blk_alloc ?_ _)); exact BK335.out) hb); have n7_ := Aside0.mk (blk_below (g := gb351) (o := .cells #[.int .i64 t339, .bool t340, .int .i64 t341, .slice Ao21 t342.length co21, .slice Ao22 t345.length co22, .bool t348, .bool t349] 26 (0, 0)) (by (with_reducible repeat (first | refine blk_drewN ?_ _ | refine blk_drew ?_ | refine blk_alloc ?_ _)); exact BK351.out) hb); have n8_ := Aside0.mk (below_step (by repeat (first | (with_reducible first | exact HB.out | apply below_alloc | apply pw_below_drewN | apply below_drew1 | refine below_set ?_ GE335.out | refine below_set ?_ GE351.out) | exact HB.out)) hb); clear HO_5; clear HO_336003; clear HO_336004; clear HO_352003; clear HO_352004; clear BK335; clear BK351; clear HB; have HO_5 := n0_; have HO_336003 := n1_; have HO_336004 := n2_; have HO_352003 := n3_; have HO_352004 := n4_; have HO355 := n5_; have BK335 := n6_; have BK351 := n7_; have HB := n8_; clear n0_ n1_ n2_ n3_ n4_ n5_ n6_ n7_ n8_; (try clear hb); (try clear hb2); (try clear hk); (try clear hi); (try clear ho0); obtain ⟨Ao116, co116, eo116⟩ := Kd.R_slice HO355.out; subst eo116) | ((with_reducible refine gate_callee (f := 41) rfl ?_); refine goesL_ (some 41) rfl rfl Try.func41 (by kernel_rfl) rfl #[.slice Ao16 t336.length co16, .slice Ao116 t353.length co116] rfl (by (try simp only [List.map_toArray, List.map_cons, List.map_nil]); first | done | rfl | (simp only [List.length_drop, List.length_take]; rfl)) ?_; (with_reducible refine (laws_eqIntS.calls kj6 _ _ t336 _ _ t353 false _ ?side1 ?side2 ?side3 ?side4 A35.out).mono ?_); (case side1 => repeat (first | exact (Kd.R_reads' HO_5.out).2.2 | (with_reducible refine Kd.C_alloc ?_ _) | (with_reducible refine Kd.C_drewN ?_ _) | (with_reducible refine Kd.C_drew ?_))); (case side2 => exact (Kd.R_reads' HO_5.out).2.1); (case side3 => repeat (first | exact (Kd.R_reads' HO355.out).2.2 | (with_reducible refine Kd.C_alloc ?_ _) | (with_reducible refine Kd.C_drewN ?_ _) | (with_reducible refine Kd.C_drew ?_))); (case side4 => exact (Kd.R_reads' HO355.out).2.1); rintro e w' ⟨rfl, ⟨nd, rfl⟩⟩; refine ⟨_, rfl, ?_⟩))
            go_ret
            exact ⟨by first | rfl | (simp [errW_none, errW_some] <;> rfl) | (simp [*, errW_none, errW_some] <;> rfl), by repeat (first | (with_reducible first | exact HB.out | apply below_alloc | apply pw_below_drewN | apply below_drew1 | refine below_set ?_ GE335.out | refine below_set ?_ GE351.out) | exact HB.out)⟩

/-- THE ONE PURE STATEMENT of laws_FnExactOldFrom: yours. -/
def laws_FnExactOldFrom.Pure : Prop := ∀ (l0 : List Int), l0.length ≤ maxLen → l0.length * 8 ≤ 140737488351232 → (∀ x ∈ l0, (Lit.int .i64 x).wf = true) → ∃ k, laws_FnExactOldFrom.f k l0 = some true
theorem laws_FnExactOldFrom.walk (P : laws_FnExactOldFrom.Pure) (a0 : Option Addr) (len0 cap0 : Nat) (z0 : List Int) (w : World) (w0 : (a0 = none ∧ len0 = 0 ∧ cap0 = 0 ∧ z0 = []) ∨ ∃ x, a0 = some x ∧ len0 ≤ cap0 ∧ cap0 ≤ maxLen ∧ z0.length = cap0 ∧ (∀ i, i < z0.length → w.cell? (x.add i) = some (.int .i64 (z0.getD i 0))) ∧ ∀ n ∈ z0, (Lit.int .i64 n).wf = true) (y0 : len0 * 8 ≤ 140737488351232) :
    Calls Try.prog 14 #[.slice a0 len0 cap0] w fun e w' => e = .returned (.bool true) ∧ Below w.heap.size w w' := by
  obtain ⟨l0, rfl, hr0, hm0, hw0, hc0⟩ := ReadsInt.ofRowC w0
  obtain ⟨k, h⟩ := P l0 hm0 y0 hw0
  refine (laws_FnExactOldFrom.calls k _ _ l0 true w (Kd.C_of_reads (d := (0 : Int)) (h1 := fun _ => rfl) hr0) hc0 h).mono ?_
  rintro e w' ⟨rfl, hd⟩
  exact ⟨rfl, hd⟩

end Go.Proofs.Ytmpnedpokdaejaa.QFnExactOldFrom
