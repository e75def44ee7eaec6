-- Written by this session's program wip/ownprint.py.
import Derived.Test.YtfdfbpaibdgidaaQFnRecordLengthx0
import Derived.Test.YtfdfbpaibdgidaaQFnRecordLengthx4
namespace Go.Proofs.Ytfdfbpaibdgidaa.QFnRecordLength
open Go.RowKit Go.Proofs.YtfdfbpaibdgidaaW.PrintWords Go.Proofs.YtfdfbpaibdgidaaW.PrintLast Go.Proofs.YtfdfbpaibdgidaaW.PrintMore
attribute [local go_sem] max2_int min2_int max_two min_two max_three min_three max_four min_four   -- for this text's walks alone
set_option linter.unusedVariables false
set_option linter.unusedSimpArgs false

/-! ### spec_DrawRecordBytes: function 27 -/
def spec_DrawRecordBytes.f (k : Nat) (l0 : List Int) : Option (Int × Int × Bool × List Int × Bool × List Int × Int × Int) := (spec_l6Open.f l0).bind fun bt303 => ((spec_l91Record.f k bt303.1 bt303.2).bind fun bt306 => ((spec_l6Rd_pick.f k bt303.1 bt306.2.2.2.2.2.2 16).bind fun bt318 => (if bt318.1 = 0 then ((some (([(-1), 99999, 100000] : List Int) : List Int)).bind fun y320 => ((spec_l6Rd_pick.f k bt303.1 bt318.2 3).bind fun bt323 => (if 0 ≤ bt323.1 then (if bt323.1 < (y320.length : Int) then ((some (([(-1), 99999, 100000] : List Int) : List Int)).bind fun y326 => ((spec_l6Rd_pick.f k bt303.1 bt323.2 3).bind fun bt329 => (if 0 ≤ bt329.1 then (if bt329.1 < (y326.length : Int) then (some (bt306.1, bt306.2.1, bt306.2.2.1, bt306.2.2.2.1, bt306.2.2.2.2.1, bt306.2.2.2.2.2.1, rd y320 bt323.1, rd y326 bt329.1)) else (none)) else (none)))) else (none)) else (none)))) else ((spec_l6Rd_pick.f k bt303.1 bt318.2 60).bind fun bt332 => ((spec_l6Rd_pick.f k bt303.1 bt332.2 250).bind fun bt334 => (some (bt306.1, bt306.2.1, bt306.2.2.1, bt306.2.2.2.1, bt306.2.2.2.2.1, bt306.2.2.2.2.2.1, bt332.1, bt334.1)))))))
theorem spec_DrawRecordBytes.mono : ∀ a0 k, LeO (spec_DrawRecordBytes.f k a0) (spec_DrawRecordBytes.f (k + 1) a0) := by
  intro a0 k
  unfold spec_DrawRecordBytes.f
  repeat' first
      | (with_reducible exact spec_l6Rd_pick.mono _ _ _ _)
      | (with_reducible exact spec_l91Record.mono _ _ _)
      | (with_reducible exact LeO.refl _)
      | (with_reducible exact LeO.none _)
      | (with_reducible refine LeO.ite ?_ ?_)
      | (with_reducible refine LeO.bind ?_ (fun _ => ?_))
      | exact spec_l6Rd_pick.mono _ _ _ _
      | exact spec_l91Record.mono _ _ _
      | exact LeO.none _
      | refine LeO.ite ?_ ?_
      | refine LeO.bind ?_ (fun _ => ?_)
def spec_DrawRecordBytes.T4 : Bool × List (List Nat × List Nat) := (true, [([], []), ([], []), ([], []), ([2], [2]), ([1, 3], [1, 3]), ([4], [4]), ([], []), ([], []), ([7, 3], [7]), ([6, 8], [6, 8]), ([9], [9]), ([0, 8, 0], [0]), ([5, 11, 0, 1, 2, 3, 4, 5, 11], [5]), ([10, 12, 0, 1, 2, 3, 4, 5, 6, 7, 8, 9, 10, 11, 12], [10])])
def spec_DrawRecordBytes.B4 : List Nat := [0, 0, 0, 4, 14, 30, 0, 0, 140, 460, 972, 397, 2495, 8191]
theorem spec_DrawRecordBytes.tab4 : rtab .any (opsOf Try.f27 4) = spec_DrawRecordBytes.T4 := by kernel_rfl
theorem spec_DrawRecordBytes.bits4 : waitsOk spec_DrawRecordBytes.T4.2 spec_DrawRecordBytes.B4 = true := by kernel_rfl
def spec_DrawRecordBytes.T5 : Bool × List (List Nat × List Nat) := (true, [([], []), ([], []), ([1], [1]), ([], []), ([3, 2], [3]), ([0, 4, 0], [0]), ([2, 5, 0, 1, 2, 5], [2]), ([4, 6, 0, 1, 2, 3, 4, 5, 6], [4])])
def spec_DrawRecordBytes.B5 : List Nat := [0, 0, 2, 0, 14, 31, 63, 127]
theorem spec_DrawRecordBytes.tab5 : rtab .any (opsOf Try.f27 5) = spec_DrawRecordBytes.T5 := by kernel_rfl
theorem spec_DrawRecordBytes.bits5 : waitsOk spec_DrawRecordBytes.T5.2 spec_DrawRecordBytes.B5 = true := by kernel_rfl
set_option maxHeartbeats 8000000 in
set_option maxRecDepth 100000 in
theorem spec_DrawRecordBytes.calls (k : Nat) (A0 : Option Addr) (c0 : Nat) (l0 : List Int) (r1 : Int) (r2 : Int) (r3 : Bool) (r4 : List Int) (r5 : Bool) (r6 : List Int) (r7 : Int) (r8 : Int) (w : World) (hr0 : Kd.C (Kd.int .u8) w A0 l0.length l0) (hc0 : l0.length ≤ c0) (h : spec_DrawRecordBytes.f k l0 = some (r1, r2, r3, r4, r5, r6, r7, r8)) :
    Calls Try.prog 27 #[.slice A0 l0.length c0] w fun e w' => ∃ v3_ v5_ : Value, e = .returned (.tuple #[.agg #[.int .i64 r1, .int .i64 r2, .bool r3, v3_, .bool r5, v5_], .int .i64 r7, .int .i64 r8]) ∧ Kd.R (Kd.int .i64) 3 w' w.heap.size (fun k_ => some k_ ≠ (v5_ : Value).ownBlock) v3_ r4 ∧ Kd.R (Kd.int .i64) 3 w' w.heap.size (fun k_ => some k_ ≠ (v3_ : Value).ownBlock) v5_ r6 ∧ Below w.heap.size w w' := by
  have hu36 := Try.underlying36
  have HR0 := Aside0.mk hr0
  have HC0 := Aside0.mk hc0
  clear hr0 hc0
  have HB := Aside0.mk (Below.refl w.heap.size w)
  have H : ((spec_l6Open.f l0).bind fun bt303 => ((spec_l91Record.f k bt303.1 bt303.2).bind fun bt306 => ((spec_l6Rd_pick.f k bt303.1 bt306.2.2.2.2.2.2 16).bind fun bt318 => (if bt318.1 = 0 then ((some (([(-1), 99999, 100000] : List Int) : List Int)).bind fun y320 => ((spec_l6Rd_pick.f k bt303.1 bt318.2 3).bind fun bt323 => (if 0 ≤ bt323.1 then (if bt323.1 < (y320.length : Int) then ((some (([(-1), 99999, 100000] : List Int) : List Int)).bind fun y326 => ((spec_l6Rd_pick.f k bt303.1 bt323.2 3).bind fun bt329 => (if 0 ≤ bt329.1 then (if bt329.1 < (y326.length : Int) then (some (bt306.1, bt306.2.1, bt306.2.2.1, bt306.2.2.2.1, bt306.2.2.2.2.1, bt306.2.2.2.2.2.1, rd y320 bt323.1, rd y326 bt329.1)) else (none)) else (none)))) else (none)) else (none)))) else ((spec_l6Rd_pick.f k bt303.1 bt318.2 60).bind fun bt332 => ((spec_l6Rd_pick.f k bt303.1 bt332.2 250).bind fun bt334 => (some (bt306.1, bt306.2.1, bt306.2.2.1, bt306.2.2.2.1, bt306.2.2.2.2.1, bt306.2.2.2.2.2.1, bt332.1, bt334.1)))))))) = some (r1, r2, r3, r4, r5, r6, r7, r8) := h
  clear h
  replace H := Option.bind_eq_some_iff.mp H
  obtain ⟨⟨t303, t304⟩, A20, H⟩ := H
  replace H : ((spec_l91Record.f k t303 t304).bind fun bt306 => ((spec_l6Rd_pick.f k t303 bt306.2.2.2.2.2.2 16).bind fun bt318 => (if bt318.1 = 0 then ((some (([(-1), 99999, 100000] : List Int) : List Int)).bind fun y320 => ((spec_l6Rd_pick.f k t303 bt318.2 3).bind fun bt323 => (if 0 ≤ bt323.1 then (if bt323.1 < (y320.length : Int) then ((some (([(-1), 99999, 100000] : List Int) : List Int)).bind fun y326 => ((spec_l6Rd_pick.f k t303 bt323.2 3).bind fun bt329 => (if 0 ≤ bt329.1 then (if bt329.1 < (y326.length : Int) then (some (bt306.1, bt306.2.1, bt306.2.2.1, bt306.2.2.2.1, bt306.2.2.2.2.1, bt306.2.2.2.2.2.1, rd y320 bt323.1, rd y326 bt329.1)) else (none)) else (none)))) else (none)) else (none)))) else ((spec_l6Rd_pick.f k t303 bt318.2 60).bind fun bt332 => ((spec_l6Rd_pick.f k t303 bt332.2 250).bind fun bt334 => (some (bt306.1, bt306.2.1, bt306.2.2.1, bt306.2.2.2.1, bt306.2.2.2.2.1, bt306.2.2.2.2.2.1, bt332.1, bt334.1))))))) = some (r1, r2, r3, r4, r5, r6, r7, r8) := H
  have A2 := Aside0.mk A20
  clear A20
  replace H := Option.bind_eq_some_iff.mp H
  obtain ⟨⟨t306, t307, t308, t309, t312, t313, t316⟩, A30, H⟩ := H
  replace H : ((spec_l6Rd_pick.f k t303 t316 16).bind fun bt318 => (if bt318.1 = 0 then ((some (([(-1), 99999, 100000] : List Int) : List Int)).bind fun y320 => ((spec_l6Rd_pick.f k t303 bt318.2 3).bind fun bt323 => (if 0 ≤ bt323.1 then (if bt323.1 < (y320.length : Int) then ((some (([(-1), 99999, 100000] : List Int) : List Int)).bind fun y326 => ((spec_l6Rd_pick.f k t303 bt323.2 3).bind fun bt329 => (if 0 ≤ bt329.1 then (if bt329.1 < (y326.length : Int) then (some (t306, t307, t308, t309, t312, t313, rd y320 bt323.1, rd y326 bt329.1)) else (none)) else (none)))) else (none)) else (none)))) else ((spec_l6Rd_pick.f k t303 bt318.2 60).bind fun bt332 => ((spec_l6Rd_pick.f k t303 bt332.2 250).bind fun bt334 => (some (t306, t307, t308, t309, t312, t313, bt332.1, bt334.1)))))) = some (r1, r2, r3, r4, r5, r6, r7, r8) := H
  have A3 := Aside0.mk A30
  clear A30
  replace H := Option.bind_eq_some_iff.mp H
  obtain ⟨⟨t318, t319⟩, A40, H⟩ := H
  replace H : (if t318 = 0 then ((some (([(-1), 99999, 100000] : List Int) : List Int)).bind fun y320 => ((spec_l6Rd_pick.f k t303 t319 3).bind fun bt323 => (if 0 ≤ bt323.1 then (if bt323.1 < (y320.length : Int) then ((some (([(-1), 99999, 100000] : List Int) : List Int)).bind fun y326 => ((spec_l6Rd_pick.f k t303 bt323.2 3).bind fun bt329 => (if 0 ≤ bt329.1 then (if bt329.1 < (y326.length : Int) then (some (t306, t307, t308, t309, t312, t313, rd y320 bt323.1, rd y326 bt329.1)) else (none)) else (none)))) else (none)) else (none)))) else ((spec_l6Rd_pick.f k t303 t319 60).bind fun bt332 => ((spec_l6Rd_pick.f k t303 bt332.2 250).bind fun bt334 => (some (t306, t307, t308, t309, t312, t313, bt332.1, bt334.1))))) = some (r1, r2, r3, r4, r5, r6, r7, r8) := H
  have A4 := Aside0.mk A40
  clear A40
  by_cases c5 : t318 = 0
  · rw [if_pos c5] at H
    have c5b0 : (t318 == 0) = true := beq_iff_eq.mpr c5
    have c5b1 : (t318 != 0) = false := bne_eq_false_iff_eq.mpr c5
    clear c5
    obtain ⟨y320, hy320⟩ : ∃ y_ : List Int, y_ = (([(-1), 99999, 100000] : List Int)) := ⟨_, rfl⟩
    replace H : ((spec_l6Rd_pick.f k t303 t319 3).bind fun bt323 => (if 0 ≤ bt323.1 then (if bt323.1 < (y320.length : Int) then ((some (([(-1), 99999, 100000] : List Int) : List Int)).bind fun y326 => ((spec_l6Rd_pick.f k t303 bt323.2 3).bind fun bt329 => (if 0 ≤ bt329.1 then (if bt329.1 < (y326.length : Int) then (some (t306, t307, t308, t309, t312, t313, rd y320 bt323.1, rd y326 bt329.1)) else (none)) else (none)))) else (none)) else (none))) = some (r1, r2, r3, r4, r5, r6, r7, r8) := by first | (rw [hy320]; with_reducible exact H) | (have H2_ := (Option.bind_some _ _).symm.trans H; rw [hy320]; with_reducible exact H2_) | (have H2_ := (Option.bind_some _ _).symm.trans H; with_reducible exact H2_) | with_reducible exact H | (rw [hy320]; exact H) | exact H
    have Ny320 := Aside0.mk hy320
    clear hy320
    replace H := Option.bind_eq_some_iff.mp H
    obtain ⟨⟨t323, t324⟩, A60, H⟩ := H
    replace H : (if 0 ≤ t323 then (if t323 < (y320.length : Int) then ((some (([(-1), 99999, 100000] : List Int) : List Int)).bind fun y326 => ((spec_l6Rd_pick.f k t303 t324 3).bind fun bt329 => (if 0 ≤ bt329.1 then (if bt329.1 < (y326.length : Int) then (some (t306, t307, t308, t309, t312, t313, rd y320 t323, rd y326 bt329.1)) else (none)) else (none)))) else (none)) else (none)) = some (r1, r2, r3, r4, r5, r6, r7, r8) := H
    have A6 := Aside0.mk A60
    clear A60
    by_cases c7 : 0 ≤ t323
    · rw [if_pos c7] at H
      have c7b0 : decide (0 ≤ t323) = true := decide_eq_true c7
      clear c7
      by_cases c8 : t323 < (y320.length : Int)
      · rw [if_pos c8] at H
        have c8b0 : decide (t323 < (y320.length : Int)) = true := decide_eq_true c8
        clear c8
        obtain ⟨y326, hy326⟩ : ∃ y_ : List Int, y_ = (([(-1), 99999, 100000] : List Int)) := ⟨_, rfl⟩
        replace H : ((spec_l6Rd_pick.f k t303 t324 3).bind fun bt329 => (if 0 ≤ bt329.1 then (if bt329.1 < (y326.length : Int) then (some (t306, t307, t308, t309, t312, t313, rd y320 t323, rd y326 bt329.1)) else (none)) else (none))) = some (r1, r2, r3, r4, r5, r6, r7, r8) := by first | (rw [hy326]; with_reducible exact H) | (have H2_ := (Option.bind_some _ _).symm.trans H; rw [hy326]; with_reducible exact H2_) | (have H2_ := (Option.bind_some _ _).symm.trans H; with_reducible exact H2_) | with_reducible exact H | (rw [hy326]; exact H) | exact H
        have Ny326 := Aside0.mk hy326
        clear hy326
        replace H := Option.bind_eq_some_iff.mp H
        obtain ⟨⟨t329, t330⟩, A90, H⟩ := H
        replace H : (if 0 ≤ t329 then (if t329 < (y326.length : Int) then (some (t306, t307, t308, t309, t312, t313, rd y320 t323, rd y326 t329)) else (none)) else (none)) = some (r1, r2, r3, r4, r5, r6, r7, r8) := H
        have A9 := Aside0.mk A90
        clear A90
        by_cases c10 : 0 ≤ t329
        · rw [if_pos c10] at H
          have c10b0 : decide (0 ≤ t329) = true := decide_eq_true c10
          clear c10
          by_cases c11 : t329 < (y326.length : Int)
          · rw [if_pos c11] at H
            have c11b0 : decide (t329 < (y326.length : Int)) = true := decide_eq_true c11
            clear c11
            simp only [Option.some.injEq, Prod.mk.injEq] at H
            obtain ⟨rfl, rfl, rfl, rfl, rfl, rfl, rfl, rfl⟩ := H
            go_enter Try.func27, Try.ntmps27
            try go_wp2_with (first | ((with_reducible refine gate_dst (N := 2) rfl ?_); refine box_event ?hg (N := 2) ?hd (cs := #[.int .i64 0, .int .i64 0, .bool false, .slice none 0 0, .bool false, .slice none 0 0]) (t := 36) ?hr ?_; (case hd => rfl); (case hg => rfl); (case hr => first | (go_simp; done) | (go_simp; rfl)); intro gb302 hg w12 hbox hb; have n0_ := Aside0.mk (below_step (by repeat (first | (with_reducible first | exact HB.out | apply below_alloc | apply pw_below_drewN | apply below_drew1) | exact HB.out)) hb); have n1_ := Aside0.mk (hbox); have n2_ := Aside0.mk ((by rw [hg]; exact (below_size (by repeat (first | (with_reducible first | exact HB.out | apply below_alloc | apply pw_below_drewN | apply below_drew1) | exact HB.out))) : w.heap.size ≤ gb302)); have n3_ := Aside0.mk ((by rw [hg]; exact (below_size (by repeat (first | (with_reducible first | exact HB.out | apply below_alloc | apply pw_below_drewN | apply below_drew1) | exact HB.out))) : w.heap.size ≤ gb302)); clear HB; have HB := n0_; have BK302 := n1_; have GW302 := n2_; have GE302 := n3_; clear n0_ n1_ n2_ n3_; clear hb hbox hg) | ((with_reducible refine gate_callee (f := 30) rfl ?_); refine goesL_ (some 8) rfl rfl Try.func30 (by kernel_rfl) rfl #[.slice A0 l0.length c0] rfl (by (try simp only [List.map_toArray, List.map_cons, List.map_nil]); first | done | rfl | (simp only [List.length_drop, List.length_take]; rfl)) ?_; (with_reducible refine (spec_l6Open.calls _ _ l0 t303 t304 w _ ?side1 ?side2 ?side3 A2.out).mono ?_); (case side1 => repeat (first | (with_reducible first | exact HB.out | apply below_alloc | apply pw_below_drewN | apply below_drew1 | refine below_set ?_ GE302.out) | exact HB.out)); (case side2 => exact HR0.out); (case side3 => exact HC0.out); rintro e w13 ⟨g305, rfl, hi, hb, hb2⟩; refine ⟨_, rfl, ?_⟩; have n0_ := Aside0.mk (blk_below (g := gb302) (o := .cells #[.int .i64 0, .int .i64 0, .bool false, .slice none 0 0, .bool false, .slice none 0 0] 36 (0, 0)) (by (with_reducible repeat (first | refine blk_drewN ?_ _ | refine blk_drew ?_ | refine blk_alloc ?_ _)); exact BK302.out) hb2); have n1_ := Aside0.mk (hb); have n2_ := Aside0.mk (hi); have n3_ := Aside0.mk (IsS76.ne_blk hi (blk_below (g := gb302) (o := .cells #[.int .i64 0, .int .i64 0, .bool false, .slice none 0 0, .bool false, .slice none 0 0] 36 (0, 0)) (by (with_reducible repeat (first | refine blk_drewN ?_ _ | refine blk_drew ?_ | refine blk_alloc ?_ _)); exact BK302.out) hb2) (by decide)); have n4_ := Aside0.mk (Ne.symm (IsS76.ne_blk hi (blk_below (g := gb302) (o := .cells #[.int .i64 0, .int .i64 0, .bool false, .slice none 0 0, .bool false, .slice none 0 0] 36 (0, 0)) (by (with_reducible repeat (first | refine blk_drewN ?_ _ | refine blk_drew ?_ | refine blk_alloc ?_ _)); exact BK302.out) hb2) (by decide))); clear BK302; clear HB; have BK302 := n0_; have HB := n1_; have HI305 := n2_; have NB305_302 := n3_; have NB302_305 := n4_; clear n0_ n1_ n2_ n3_ n4_; (try clear hb); (try clear hb2); (try clear hk); (try clear hi)) | ((with_reducible refine gate_callee (f := 55) rfl ?_); refine goesL_ (some 10) rfl rfl Try.func55 (by kernel_rfl) rfl #[.pointer (some ⟨g305, 0, none⟩)] rfl (by (try simp only [List.map_toArray, List.map_cons, List.map_nil]); first | done | rfl | (simp only [List.length_drop, List.length_take]; rfl)) ?_; (with_reducible refine (spec_l91Record.calls k g305 t303 t304 t306 t307 t308 t309 t312 t313 t316 w _ ?side1 ?side2 A3.out).mono ?_); (case side1 => repeat (first | (with_reducible first | exact HI305.out | apply IsS76.alloc | apply IsS76.drewN | apply IsS76.drew | apply IsS76.set_1 | refine IsS76.far ?_ NB305_302.out _) | exact HI305.out)); (case side2 => repeat (first | (with_reducible first | exact HB.out | apply below_alloc | apply pw_below_drewN | apply below_drew1 | refine below_set ?_ (IsS76.ge HI305.out) | refine below_set ?_ GE302.out) | exact HB.out)); rintro e w14 ⟨v310, v314, rfl, ho0, ho1, hi, hb, hk⟩; refine ⟨_, rfl, ?_⟩; have n0_ := Aside0.mk (KeepBut.blk hk (g' := gb302) (o := .cells #[.int .i64 0, .int .i64 0, .bool false, .slice none 0 0, .bool false, .slice none 0 0] 36 (0, 0)) (by (with_reducible repeat (first | refine blk_drewN ?_ _ | refine blk_drew ?_ | refine blk_alloc ?_ _)); exact BK302.out) NB302_305.out (by simp)); have n1_ := Aside0.mk (Kd.R_lower ho0 (below_size (by repeat (first | (with_reducible first | exact HB.out | apply below_alloc | apply pw_below_drewN | apply below_drew1 | refine below_set ?_ (IsS76.ge HI305.out) | refine below_set ?_ GE302.out) | exact HB.out)))); have n2_ := Aside0.mk (Kd.R_lower ho1 (below_size (by repeat (first | (with_reducible first | exact HB.out | apply below_alloc | apply pw_below_drewN | apply below_drew1 | refine below_set ?_ (IsS76.ge HI305.out) | refine below_set ?_ GE302.out) | exact HB.out)))); have n3_ := Aside0.mk (hb); have n4_ := Aside0.mk (hi); clear BK302; clear HB; clear HI305; have BK302 := n0_; have HO311 := n1_; have HO315 := n2_; have HB := n3_; have HI305 := n4_; clear n0_ n1_ n2_ n3_ n4_; (try clear hb); (try clear hb2); (try clear hk); (try clear hi); (try clear ho0); (try clear ho1)) | ((with_reducible refine gate_dst (N := 6) rfl ?_); refine box_event ?hg (N := 6) ?hd (cs := #[.int .i64 0, .int .i64 0, .bool false, .slice none 0 0, .bool false, .slice none 0 0]) (t := 36) ?hr ?_; (case hd => rfl); (case hg => rfl); (case hr => first | (go_simp; done) | (go_simp; rfl)); intro gb317 hg w15 hbox hb; have n0_ := Aside0.mk (Kd.R_below (by (with_reducible repeat (first | apply Kd.R_alloc | apply Kd.R_drewN | apply Kd.R_drew)); exact HO311.out) hb); have n1_ := Aside0.mk (Kd.R_below (by (with_reducible repeat (first | apply Kd.R_alloc | apply Kd.R_drewN | apply Kd.R_drew)); exact HO315.out) hb); have n2_ := Aside0.mk (blk_below (g := gb302) (o := .cells #[.int .i64 0, .int .i64 0, .bool false, .slice none 0 0, .bool false, .slice none 0 0] 36 (0, 0)) (by (with_reducible repeat (first | refine blk_drewN ?_ _ | refine blk_drew ?_ | refine blk_alloc ?_ _)); exact BK302.out) hb); have n3_ := Aside0.mk (IsS76.below (by repeat (first | (with_reducible first | exact HI305.out | apply IsS76.alloc | apply IsS76.drewN | apply IsS76.drew | apply IsS76.set_1 | refine IsS76.far ?_ NB305_302.out _) | exact HI305.out)) hb); have n4_ := Aside0.mk (below_step (by repeat (first | (with_reducible first | exact HB.out | apply below_alloc | apply pw_below_drewN | apply below_drew1 | refine below_set ?_ (IsS76.ge HI305.out) | refine below_set ?_ GE302.out) | exact HB.out)) hb); have n5_ := Aside0.mk (hbox); have n6_ := Aside0.mk ((by rw [hg]; exact (below_size (by repeat (first | (with_reducible first | exact HB.out | apply below_alloc | apply pw_below_drewN | apply below_drew1 | refine below_set ?_ (IsS76.ge HI305.out) | refine below_set ?_ GE302.out) | exact HB.out))) : w.heap.size ≤ gb317)); have n7_ := Aside0.mk ((by rw [hg]; exact (below_size (by repeat (first | (with_reducible first | exact HB.out | apply below_alloc | apply pw_below_drewN | apply below_drew1 | refine below_set ?_ (IsS76.ge HI305.out) | refine below_set ?_ GE302.out) | exact HB.out))) : w.heap.size ≤ gb317)); have n8_ := Aside0.mk ((by rw [hg]; exact Nat.ne_of_lt (blk_lt (g := gb302) (o := .cells #[.int .i64 0, .int .i64 0, .bool false, .slice none 0 0, .bool false, .slice none 0 0] 36 (0, 0)) (by (with_reducible repeat (first | refine blk_drewN ?_ _ | refine blk_drew ?_ | refine blk_alloc ?_ _)); exact BK302.out)) : gb302 ≠ gb317)); have n9_ := Aside0.mk ((by rw [hg]; exact Nat.ne_of_gt (blk_lt (g := gb302) (o := .cells #[.int .i64 0, .int .i64 0, .bool false, .slice none 0 0, .bool false, .slice none 0 0] 36 (0, 0)) (by (with_reducible repeat (first | refine blk_drewN ?_ _ | refine blk_drew ?_ | refine blk_alloc ?_ _)); exact BK302.out)) : gb317 ≠ gb302)); have n10_ := Aside0.mk ((by rw [hg]; exact Nat.ne_of_lt (IsS76.lt (show IsS76 w _ g305 t303 t316 from by repeat (first | (with_reducible first | exact HI305.out | apply IsS76.alloc | apply IsS76.drewN | apply IsS76.drew | apply IsS76.set_1 | refine IsS76.far ?_ NB305_302.out _) | exact HI305.out))) : g305 ≠ gb317)); have n11_ := Aside0.mk ((by rw [hg]; exact Nat.ne_of_gt (IsS76.lt (show IsS76 w _ g305 t303 t316 from by repeat (first | (with_reducible first | exact HI305.out | apply IsS76.alloc | apply IsS76.drewN | apply IsS76.drew | apply IsS76.set_1 | refine IsS76.far ?_ NB305_302.out _) | exact HI305.out))) : gb317 ≠ g305)); clear HO311; clear HO315; clear BK302; clear HI305; clear HB; have HO311 := n0_; have HO315 := n1_; have BK302 := n2_; have HI305 := n3_; have HB := n4_; have BK317 := n5_; have GW317 := n6_; have GE317 := n7_; have NB302_317 := n8_; have NB317_302 := n9_; have NB305_317 := n10_; have NB317_305 := n11_; clear n0_ n1_ n2_ n3_ n4_ n5_ n6_ n7_ n8_ n9_ n10_ n11_; clear hb hbox hg; have hnb16 := NB317_302.out; have hnc16 := NB302_317.out; have hnb17 := NB317_305.out; have hnc17 := NB305_317.out; have hcz18_0 : w15.cell? ⟨gb317, 0, none⟩ = some (.int .i64 0) := (blk_cell BK317.out 0).trans rfl; have hcz18_1 : w15.cell? ⟨gb317, 1, none⟩ = some (.int .i64 0) := (blk_cell BK317.out 1).trans rfl; have hcz18_2 : w15.cell? ⟨gb317, 2, none⟩ = some (.bool false) := (blk_cell BK317.out 2).trans rfl; have hcz18_3 : w15.cell? ⟨gb317, 3, none⟩ = some (.slice none 0 0) := (blk_cell BK317.out 3).trans rfl; have hcz18_4 : w15.cell? ⟨gb317, 4, none⟩ = some (.bool false) := (blk_cell BK317.out 4).trans rfl; have hcz18_5 : w15.cell? ⟨gb317, 5, none⟩ = some (.slice none 0 0) := (blk_cell BK317.out 5).trans rfl; have hfz18_0 := blk_frozen BK317.out 0; have hfz18_1 := blk_frozen BK317.out 1; have hfz18_2 := blk_frozen BK317.out 2; have hfz18_3 := blk_frozen BK317.out 3; have hfz18_4 := blk_frozen BK317.out 4; have hfz18_5 := blk_frozen BK317.out 5; obtain ⟨Ao19, co19, eo19⟩ := Kd.R_slice HO311.out; subst eo19; obtain ⟨Ao20, co20, eo20⟩ := Kd.R_slice HO315.out; subst eo20) | ((with_reducible refine gate_callee (f := 31) rfl ?_); refine goesL_ (some 12) rfl rfl Try.func31 (by kernel_rfl) rfl #[.pointer (some ⟨g305, 0, none⟩), .int .i64 16] rfl (by (try simp only [List.map_toArray, List.map_cons, List.map_nil]); first | done | rfl | (simp only [List.length_drop, List.length_take]; rfl)) ?_; (with_reducible refine (spec_l6Rd_pick.calls k g305 t303 t316 16 t318 t319 w _ ?side1 ?side2 A4.out).mono ?_); (case side1 => repeat (first | (with_reducible first | exact HI305.out | apply IsS76.alloc | apply IsS76.drewN | apply IsS76.drew | apply IsS76.set_1 | refine IsS76.far ?_ NB305_302.out _ | refine IsS76.far ?_ NB305_317.out _) | exact HI305.out)); (case side2 => repeat (first | (with_reducible first | exact HB.out | apply below_alloc | apply pw_below_drewN | apply below_drew1 | refine below_set ?_ (IsS76.ge HI305.out) | refine below_set ?_ GE302.out | refine below_set ?_ GE317.out) | exact HB.out)); rintro e w21 ⟨rfl, hi, hb, hk⟩; refine ⟨_, rfl, ?_⟩; have n0_ := Aside0.mk (KeepBut.blk hk (g' := gb302) (o := .cells #[.int .i64 0, .int .i64 0, .bool false, .slice none 0 0, .bool false, .slice none 0 0] 36 (0, 0)) (by (with_reducible repeat (first | refine blk_drewN ?_ _ | refine blk_drew ?_ | refine blk_alloc ?_ _)); refine blk_far ?_ NB302_317.out _; (with_reducible repeat (first | refine blk_drewN ?_ _ | refine blk_drew ?_ | refine blk_alloc ?_ _)); refine blk_far ?_ NB302_317.out _; (with_reducible repeat (first | refine blk_drewN ?_ _ | refine blk_drew ?_ | refine blk_alloc ?_ _)); refine blk_far ?_ NB302_317.out _; (with_reducible repeat (first | refine blk_drewN ?_ _ | refine blk_drew ?_ | refine blk_alloc ?_ _)); refine blk_far ?_ NB302_317.out _; (with_reducible repeat (first | refine blk_drewN ?_ _ | refine blk_drew ?_ | refine blk_alloc ?_ _)); refine blk_far ?_ NB302_317.out _; (with_reducible repeat (first | refine blk_drewN ?_ _ | refine blk_drew ?_ | refine blk_alloc ?_ _)); refine blk_far ?_ NB302_317.out _; (with_reducible repeat (first | refine blk_drewN ?_ _ | refine blk_drew ?_ | refine blk_alloc ?_ _)); exact BK302.out) NB302_305.out (by simp)); have n1_ := Aside0.mk (Kd.R_mono (Kd.R_keep (IsS76.apart (show IsS76 w _ g305 t303 t316 from by repeat (first | (with_reducible first | exact HI305.out | apply IsS76.alloc | apply IsS76.drewN | apply IsS76.drew | apply IsS76.set_1 | refine IsS76.far ?_ NB305_302.out _ | refine IsS76.far ?_ NB305_317.out _) | exact HI305.out)) (by (with_reducible repeat (first | apply Kd.R_alloc | apply Kd.R_drewN | apply Kd.R_drew)); exact (Kd.R_mono (Kd.R_far (p := ⟨gb317, 5, none⟩) (Kd.R_far (p := ⟨gb317, 4, none⟩) (Kd.R_far (p := ⟨gb317, 3, none⟩) (Kd.R_far (p := ⟨gb317, 2, none⟩) (Kd.R_far (p := ⟨gb317, 1, none⟩) (Kd.R_far (p := ⟨gb317, 0, none⟩) (Kd.R_types HO311.out BK317.out (by decide)) (fun _ hk => hk.2) (.int .i64 t306)) (fun _ hk => hk.2) (.int .i64 t307)) (fun _ hk => hk.2) (.bool t308)) (fun _ hk => hk.2) (.slice Ao19 t309.length co19)) (fun _ hk => hk.2) (.bool t312)) (fun _ hk => hk.2) (.slice Ao20 t313.length co20)) (fun _ h_ => h_.1))) (by decide)) hk (fun _ h => h.2)) (fun _ h => h.1)); have n2_ := Aside0.mk (Kd.R_mono (Kd.R_keep (IsS76.apart (show IsS76 w _ g305 t303 t316 from by repeat (first | (with_reducible first | exact HI305.out | apply IsS76.alloc | apply IsS76.drewN | apply IsS76.drew | apply IsS76.set_1 | refine IsS76.far ?_ NB305_302.out _ | refine IsS76.far ?_ NB305_317.out _) | exact HI305.out)) (by (with_reducible repeat (first | apply Kd.R_alloc | apply Kd.R_drewN | apply Kd.R_drew)); exact (Kd.R_mono (Kd.R_far (p := ⟨gb317, 5, none⟩) (Kd.R_far (p := ⟨gb317, 4, none⟩) (Kd.R_far (p := ⟨gb317, 3, none⟩) (Kd.R_far (p := ⟨gb317, 2, none⟩) (Kd.R_far (p := ⟨gb317, 1, none⟩) (Kd.R_far (p := ⟨gb317, 0, none⟩) (Kd.R_types HO315.out BK317.out (by decide)) (fun _ hk => hk.2) (.int .i64 t306)) (fun _ hk => hk.2) (.int .i64 t307)) (fun _ hk => hk.2) (.bool t308)) (fun _ hk => hk.2) (.slice Ao19 t309.length co19)) (fun _ hk => hk.2) (.bool t312)) (fun _ hk => hk.2) (.slice Ao20 t313.length co20)) (fun _ h_ => h_.1))) (by decide)) hk (fun _ h => h.2)) (fun _ h => h.1)); have n3_ := Aside0.mk (KeepBut.blk hk (g' := gb317) (o := .cells #[.int .i64 t306, .int .i64 t307, .bool t308, .slice Ao19 t309.length co19, .bool t312, .slice Ao20 t313.length co20] 36 (0, 0)) (by (with_reducible repeat (first | refine blk_drewN ?_ _ | refine blk_drew ?_ | refine blk_alloc ?_ _)); refine blk_put (cs := #[.int .i64 t306, .int .i64 t307, .bool t308, .slice Ao19 t309.length co19, .bool t312, .slice none 0 0]) ?_ 5 _ rfl; (with_reducible repeat (first | refine blk_drewN ?_ _ | refine blk_drew ?_ | refine blk_alloc ?_ _)); refine blk_put (cs := #[.int .i64 t306, .int .i64 t307, .bool t308, .slice Ao19 t309.length co19, .bool false, .slice none 0 0]) ?_ 4 _ rfl; (with_reducible repeat (first | refine blk_drewN ?_ _ | refine blk_drew ?_ | refine blk_alloc ?_ _)); refine blk_put (cs := #[.int .i64 t306, .int .i64 t307, .bool t308, .slice none 0 0, .bool false, .slice none 0 0]) ?_ 3 _ rfl; (with_reducible repeat (first | refine blk_drewN ?_ _ | refine blk_drew ?_ | refine blk_alloc ?_ _)); refine blk_put (cs := #[.int .i64 t306, .int .i64 t307, .bool false, .slice none 0 0, .bool false, .slice none 0 0]) ?_ 2 _ rfl; (with_reducible repeat (first | refine blk_drewN ?_ _ | refine blk_drew ?_ | refine blk_alloc ?_ _)); refine blk_put (cs := #[.int .i64 t306, .int .i64 0, .bool false, .slice none 0 0, .bool false, .slice none 0 0]) ?_ 1 _ rfl; (with_reducible repeat (first | refine blk_drewN ?_ _ | refine blk_drew ?_ | refine blk_alloc ?_ _)); refine blk_put (cs := #[.int .i64 0, .int .i64 0, .bool false, .slice none 0 0, .bool false, .slice none 0 0]) ?_ 0 _ rfl; (with_reducible repeat (first | refine blk_drewN ?_ _ | refine blk_drew ?_ | refine blk_alloc ?_ _)); exact BK317.out) NB317_305.out (by simp)); have n4_ := Aside0.mk (hb); have n5_ := Aside0.mk (hi); clear BK302; clear HO311; clear HO315; clear BK317; clear HB; clear HI305; have BK302 := n0_; have HO311 := n1_; have HO315 := n2_; have BK317 := n3_; have HB := n4_; have HI305 := n5_; clear n0_ n1_ n2_ n3_ n4_ n5_; (try clear hb); (try clear hb2); (try clear hk); (try clear hi)))
            have pi325 : (0 ≤ (t323 : Int)) = True := eq_true (of_decide_eq_true (by first | (with_reducible assumption) | assumption))
            have qi325 : (t323 < (y320.length : Int)) = True := eq_true (of_decide_eq_true (by first | (with_reducible assumption) | assumption))
            have pi331 : (0 ≤ (t329 : Int)) = True := eq_true (of_decide_eq_true (by first | (with_reducible assumption) | assumption))
            have qi331 : (t329 < (y326.length : Int)) = True := eq_true (of_decide_eq_true (by first | (with_reducible assumption) | assumption))
            have n0_ := Aside0.mk (Kd.R_drew HO311.out)
            have n1_ := Aside0.mk (Kd.R_drew HO315.out)
            have n2_ := Aside0.mk (blk_drew BK302.out)
            have n3_ := Aside0.mk (blk_drew BK317.out)
            have n4_ := Aside0.mk (IsS76.drew HI305.out)
            have n5_ := Aside0.mk (below_drew1 HB.out)
            clear HO311
            clear HO315
            clear BK302
            clear BK317
            clear HI305
            clear HB
            have HO311 := n0_
            have HO315 := n1_
            have BK302 := n2_
            have BK317 := n3_
            have HI305 := n4_
            have HB := n5_
            clear n0_ n1_ n2_ n3_ n4_ n5_
            refine start_ (n := 14) (S := fun w' => True) (ds := []) #[false, false, false, false, false, false, false, false, false, false, false, false, false, false] (by kernel_rfl) rfl rfl trivial (fun hHeld => ?_); refine with_tabW spec_DrawRecordBytes.tab4 spec_DrawRecordBytes.bits4 (fun HT_ HW_ => ?_)
            generalize w21.drew = w22 at HO311 HO315 BK302 BK317 HI305 HB hHeld ⊢
            refine pure_ (i := 2) (N := some 16) (v := ?_) (a' := ?_) #[false, false, true, false, false, false, false, false, false, false, false, false, false, false] rfl rfl (any_of HT_.out (by kernel_rfl)) (fun _ _ _ h => h) (Or.inl ⟨by rfl, ?_⟩) ?_ ?_
            rotate_left
            · intro w'
              go_simp
              with_reducible rfl
            rotate_left
            · simp only [Act.put, List.setIfInBounds_toArray, List.set_cons_zero, List.set_cons_succ, i64_w, i32_w]
              rfl
            refine pure_ (i := 7) (N := some 21) (v := ?_) (a' := ?_) #[false, false, true, false, false, false, false, true, false, false, false, false, false, false] rfl rfl (any_of HT_.out (by kernel_rfl)) (fun _ _ _ h => h) (Or.inl ⟨by rfl, ?_⟩) ?_ ?_
            rotate_left
            · intro w'
              go_simp
              with_reducible rfl
            rotate_left
            · simp only [Act.put, List.setIfInBounds_toArray, List.set_cons_zero, List.set_cons_succ, i64_w, i32_w]
              rfl
            refine inv_at [0, 1, 3, 4, 5, 6, 8, 9, 10, 11, 12, 13] (fun a0_ b a w' => ∃ (v321 : Value) (adz_v321 : Addr) (v327 : Value) (adz_v327 : Addr) (m4_ : Value) (m9_ : Value), a = putSel a0_ b [(0, 14, .agg #[.int .i64 t306, .int .i64 t307, .bool t308, .slice Ao19 t309.length co19, .bool t312, .slice Ao20 t313.length co20]), (1, 15, v321), (3, 17, .int .i64 t323), (4, 18, m4_), (5, 19, .int .i64 (rd y320 t323)), (6, 20, v327), (8, 22, .int .i64 t329), (9, 23, m9_), (10, 24, .int .i64 (rd y326 t329)), (12, 3, .int .i64 (rd y320 t323)), (13, 4, .int .i64 (rd y326 t329))] ∧ (Kd.R (Kd.int .i64) 3 w' w.heap.size (fun k_ => some k_ ≠ (.slice Ao20 t313.length co20 : Value).ownBlock) (.slice Ao19 t309.length co19) t309) ∧ (Kd.R (Kd.int .i64) 3 w' w.heap.size (fun k_ => some k_ ≠ (.slice Ao19 t309.length co19 : Value).ownBlock) (.slice Ao20 t313.length co20) t313) ∧ (b 11 = false → w'.heap[gb302]? = some (.cells #[.int .i64 0, .int .i64 0, .bool false, .slice none 0 0, .bool false, .slice none 0 0] 36 (0, 0))) ∧ (w'.heap[gb317]? = some (.cells #[.int .i64 t306, .int .i64 t307, .bool t308, .slice Ao19 t309.length co19, .bool t312, .slice Ao20 t313.length co20] 36 (0, 0))) ∧ (b 3 = false → IsS76 w w' g305 t303 t319) ∧ (Below w.heap.size w w') ∧ (b 1 = true → Kd.R (Kd.int .i64) 3 w' w.heap.size (fun k_ => some k_ ≠ (.slice Ao19 t309.length co19 : Value).ownBlock ∧ some k_ ≠ (.slice Ao20 t313.length co20 : Value).ownBlock) v321 y320) ∧ (b 1 = true → ∃ c_, (v321 : Value) = .slice (some adz_v321) y320.length c_) ∧ (b 3 = true → b 8 = false → IsS76 w w' g305 t303 t324) ∧ (b 6 = true → Kd.R (Kd.int .i64) 3 w' w.heap.size (fun k_ => some k_ ≠ (.slice Ao19 t309.length co19 : Value).ownBlock ∧ some k_ ≠ (.slice Ao20 t313.length co20 : Value).ownBlock) v327 y326) ∧ (b 6 = true → ∃ c_, (v327 : Value) = .slice (some adz_v327) y326.length c_) ∧ (b 8 = true → IsS76 w w' g305 t303 t330) ∧ (b 11 = true → w'.heap[gb302]? = some (.cells #[.int .i64 t306, .int .i64 t307, .bool t308, .slice Ao19 t309.length co19, .bool t312, .slice Ao20 t313.length co20] 36 (0, 0))) ∧ (b 4 = true → (m4_ : Value) = .pointer (some (adz_v321.add (t323).toNat))) ∧ (b 9 = true → (m9_ : Value) = .pointer (some (adz_v327.add (t329).toNat)))) HT_.out HW_.out (by kernel_rfl) (by kernel_rfl) ?_ ?_ ?_
            · exact ⟨.bool false, ⟨0, 0, none⟩, .bool false, ⟨0, 0, none⟩, .bool false, .bool false, by simp only [putSel, Bool.false_eq_true, if_false], HO311.out, HO315.out, fun _ => BK302.out, BK317.out, fun _ => HI305.out, HB.out, fun h_ => absurd h_ (by decide), fun h_ => absurd h_ (by decide), fun h_ => absurd h_ (by decide), fun h_ => absurd h_ (by decide), fun h_ => absurd h_ (by decide), fun h_ => absurd h_ (by decide), fun h_ => absurd h_ (by decide), fun h_ => absurd h_ (by decide), fun h_ => absurd h_ (by decide)⟩
            · skip
              clear BK302 BK317 HB HI305 HO311 HO315
              refine steps_cons ?_ ?_
              · rintro b a w' ⟨v321, adz_v321, v327, adz_v327, m4_, m9_, ha, Q_HO311, Q_HO315, Q_BK302, Q_BK317, Q_HI305, Q_HB, Q_HO322, Q_HA_HO322, Q_HI305_e3, Q_HO328, Q_HA_HO328, Q_HI305_e8, Q_BK302_e11, Q_X4_, Q_X9_⟩ hb_ hon hoff
                refine ⟨_, rfl, fun K hK => ?_⟩
                have e6 : a.tmps[6]? = some (.pointer (some ⟨gb317, 0, none⟩)) := by rw [ha]; exact (putSel_off rfl).trans rfl
                replace ha := Aside0.mk ha
                have HO311 := Aside0.mk Q_HO311
                have HO315 := Aside0.mk Q_HO315
                have BK302 := Aside0.mk (Q_BK302 (hoff 11 (by kernel_rfl)))
                have BK317 := Aside0.mk Q_BK317
                have HB := Aside0.mk Q_HB
                have hc0_ : w'.cell? ⟨gb317, 0, none⟩ = some (.int .i64 t306) := (blk_cell BK317.out 0).trans rfl
                have hc1_ : w'.cell? ⟨gb317, 1, none⟩ = some (.int .i64 t307) := (blk_cell BK317.out 1).trans rfl
                have hc2_ : w'.cell? ⟨gb317, 2, none⟩ = some (.bool t308) := (blk_cell BK317.out 2).trans rfl
                have hc3_ : w'.cell? ⟨gb317, 3, none⟩ = some (.slice Ao19 t309.length co19) := (blk_cell BK317.out 3).trans rfl
                have hc4_ : w'.cell? ⟨gb317, 4, none⟩ = some (.bool t312) := (blk_cell BK317.out 4).trans rfl
                have hc5_ : w'.cell? ⟨gb317, 5, none⟩ = some (.slice Ao20 t313.length co20) := (blk_cell BK317.out 5).trans rfl
                refine value_ (w1 := w') (v := .agg #[.int .i64 t306, .int .i64 t307, .bool t308, .slice Ao19 t309.length co19, .bool t312, .slice Ao20 t313.length co20]) (by rfl) rfl ?_ ?_
                · go_simp
                  (try simp only [i64_w])
                  try rfl
                refine hK.out _ _ ⟨v321, adz_v321, v327, adz_v327, m4_, m9_, (by rw [ha.out]; exact putSel_upk 0 hb_ rfl rfl rfl), Q_HO311, Q_HO315, Q_BK302, Q_BK317, Q_HI305, Q_HB, Q_HO322, Q_HA_HO322, Q_HI305_e3, Q_HO328, Q_HA_HO328, Q_HI305_e8, fun h0_ => absurd ((hoff 11 (by kernel_rfl)).symm.trans h0_) (by decide), Q_X4_, Q_X9_⟩
              refine steps_cons ?_ ?_
              · rintro b a w' ⟨v321, adz_v321, v327, adz_v327, m4_, m9_, ha, Q_HO311, Q_HO315, Q_BK302, Q_BK317, Q_HI305, Q_HB, Q_HO322, Q_HA_HO322, Q_HI305_e3, Q_HO328, Q_HA_HO328, Q_HI305_e8, Q_BK302_e11, Q_X4_, Q_X9_⟩ hb_ hon hoff
                refine ⟨_, rfl, fun K hK => ?_⟩
                replace ha := Aside0.mk ha
                have HO311 := Aside0.mk Q_HO311
                have HO315 := Aside0.mk Q_HO315
                have BK317 := Aside0.mk Q_BK317
                have HB := Aside0.mk Q_HB
                refine Kd.R_lit_step (Kd.int .i64) _ 3 ?hg (N := 15) ?hd (xs := ([(-1), 99999, 100000] : List Int)) (inner := [.int .i64 (-1), .int .i64 99999, .int .i64 100000]) (ok := fun _ => True) (okp := fun _ => True) ?hr ?hp (fun _ hk => hk) trivial (Below.refl _ _) (Nat.le_refl _) (by simp) ?_; (case hd => rfl); (case hg => rfl); (case hr => first | (go_simp; done) | (go_simp; rfl)); (case hp => exact (Reps.one (show Kd.M (Kd.int .i64) _ _ _ (-1) [.int .i64 (-1)] from rfl) (Reps.one (show Kd.M (Kd.int .i64) _ _ _ 99999 [.int .i64 99999] from rfl) (Reps.one (show Kd.M (Kd.int .i64) _ _ _ 100000 [.int .i64 100000] from rfl) (Reps.none _ _)))))
                intro v321 w23 ho24 hb hg_ hnew_
                clear hg_ hnew_
                (first | rw [← Ny320.out] at ho24 | (simp only [Int.reduceToNat] at ho24; rw [← Ny320.out] at ho24))
                have n0_ := Aside0.mk (Kd.R_elder' (by (with_reducible repeat (first | apply Kd.R_alloc | apply Kd.R_drewN | apply Kd.R_drew)); exact HO311.out) (Kd.R_base ho24) hb)
                have n1_ := Aside0.mk (Kd.R_elder' (by (with_reducible repeat (first | apply Kd.R_alloc | apply Kd.R_drewN | apply Kd.R_drew)); exact HO315.out) (Kd.R_base ho24) hb)
                have n2_ := Aside0.mk (Kd.R_lower (Kd.R_new' (Kd.R_new' ho24 (Kd.R_lt (by (with_reducible repeat (first | apply Kd.R_alloc | apply Kd.R_drewN | apply Kd.R_drew)); exact HO311.out))) (Kd.R_lt (by (with_reducible repeat (first | apply Kd.R_alloc | apply Kd.R_drewN | apply Kd.R_drew)); exact HO315.out))) (below_size (by repeat (first | (with_reducible first | exact HB.out | apply below_alloc | apply pw_below_drewN | apply below_drew1 | refine below_set ?_ GE302.out | refine below_set ?_ GE317.out) | exact HB.out))))
                have n5_ := Aside0.mk (blk_below (g := gb317) (o := .cells #[.int .i64 t306, .int .i64 t307, .bool t308, .slice Ao19 t309.length co19, .bool t312, .slice Ao20 t313.length co20] 36 (0, 0)) (by (with_reducible repeat (first | refine blk_drewN ?_ _ | refine blk_drew ?_ | refine blk_alloc ?_ _)); exact BK317.out) hb)
                have n6_ := Aside0.mk (below_step (by repeat (first | (with_reducible first | exact HB.out | apply below_alloc | apply pw_below_drewN | apply below_drew1 | refine below_set ?_ GE302.out | refine below_set ?_ GE317.out) | exact HB.out)) hb)
                have z_BK302 := fun (h0_ : b 11 = false) => (show w23.heap[gb302]? = some (.cells #[.int .i64 0, .int .i64 0, .bool false, .slice none 0 0, .bool false, .slice none 0 0] 36 (0, 0)) from by first | exact (blk_below (g := gb302) (o := .cells #[.int .i64 0, .int .i64 0, .bool false, .slice none 0 0, .bool false, .slice none 0 0] 36 (0, 0)) (by (with_reducible repeat (first | refine blk_drewN ?_ _ | refine blk_drew ?_ | refine blk_alloc ?_ _)); exact (Q_BK302 h0_)) hb))
                have z_HI305 := fun (h0_ : b 3 = false) => (show IsS76 w w23 g305 t303 t319 from by first | exact (IsS76.below (by repeat (first | (with_reducible first | exact (Q_HI305 h0_) | apply IsS76.alloc | apply IsS76.drewN | apply IsS76.drew | apply IsS76.set_1 | refine IsS76.far ?_ NB305_302.out _ | refine IsS76.far ?_ NB305_317.out _) | exact (Q_HI305 h0_))) hb))
                have z_HI305_e3 := fun (h0_ : b 3 = true) (h1_ : b 8 = false) => (show IsS76 w w23 g305 t303 t324 from by first | exact (IsS76.below (by repeat (first | (with_reducible first | exact (Q_HI305_e3 h0_ h1_) | apply IsS76.alloc | apply IsS76.drewN | apply IsS76.drew | apply IsS76.set_1 | refine IsS76.far ?_ NB305_302.out _ | refine IsS76.far ?_ NB305_317.out _) | exact (Q_HI305_e3 h0_ h1_))) hb))
                have z_HO328 := fun (h0_ : b 6 = true) => (show Kd.R (Kd.int .i64) 3 w23 w.heap.size (fun k_ => some k_ ≠ (.slice Ao19 t309.length co19 : Value).ownBlock ∧ some k_ ≠ (.slice Ao20 t313.length co20 : Value).ownBlock) v327 y326 from by first | exact (Kd.R_elder' (by (with_reducible repeat (first | apply Kd.R_alloc | apply Kd.R_drewN | apply Kd.R_drew)); exact (Q_HO328 h0_)) (Kd.R_base ho24) hb) | exact Kd.R_mono (Kd.R_elder' (by (with_reducible repeat (first | apply Kd.R_alloc | apply Kd.R_drewN | apply Kd.R_drew)); exact (Q_HO328 h0_)) (Kd.R_base ho24) hb) (fun _ h_ => by first | trivial | exact h_ | exact h_.1))
                have z_HI305_e8 := fun (h0_ : b 8 = true) => (show IsS76 w w23 g305 t303 t330 from by first | exact (IsS76.below (by repeat (first | (with_reducible first | exact (Q_HI305_e8 h0_) | apply IsS76.alloc | apply IsS76.drewN | apply IsS76.drew | apply IsS76.set_1 | refine IsS76.far ?_ NB305_302.out _ | refine IsS76.far ?_ NB305_317.out _) | exact (Q_HI305_e8 h0_))) hb))
                have z_BK302_e11 := fun (h0_ : b 11 = true) => (show w23.heap[gb302]? = some (.cells #[.int .i64 t306, .int .i64 t307, .bool t308, .slice Ao19 t309.length co19, .bool t312, .slice Ao20 t313.length co20] 36 (0, 0)) from by first | exact (blk_below (g := gb302) (o := .cells #[.int .i64 t306, .int .i64 t307, .bool t308, .slice Ao19 t309.length co19, .bool t312, .slice Ao20 t313.length co20] 36 (0, 0)) (by (with_reducible repeat (first | refine blk_drewN ?_ _ | refine blk_drew ?_ | refine blk_alloc ?_ _)); exact (Q_BK302_e11 h0_)) hb))
                clear HO311
                clear HO315
                clear BK317
                clear HB
                have HO311 := n0_
                have HO315 := n1_
                have HO322 := n2_
                have BK317 := n5_
                have HB := n6_
                clear n0_ n1_ n2_ n5_ n6_
                clear hb ho24
                obtain ⟨Ao25, co25, eo25⟩ := Kd.R_slice HO322.out
                subst eo25
                obtain ⟨ado25, fo25, _⟩ := Kd.at_int (Kd.R_reads' HO322.out).2.2 0 (by decide) (by rw [Ny320.out]; simp)
                cases fo25
                refine hK.out _ _ ⟨.slice (some ado25) y320.length co25, ado25, v327, adz_v327, m4_, m9_, (by rw [ha.out]; exact putSel_upk 1 hb_ rfl rfl rfl), (by (with_reducible repeat (first | apply Kd.R_alloc | apply Kd.R_drewN | apply Kd.R_drew)); first | exact HO311.out | exact Kd.R_mono HO311.out (fun _ hk => hk.1)), (by (with_reducible repeat (first | apply Kd.R_alloc | apply Kd.R_drewN | apply Kd.R_drew)); first | exact HO315.out | exact Kd.R_mono HO315.out (fun _ hk => hk.1)), z_BK302, (by (with_reducible repeat (first | refine blk_drewN ?_ _ | refine blk_drew ?_ | refine blk_alloc ?_ _)); exact BK317.out), z_HI305, (by repeat (first | (with_reducible first | exact HB.out | apply below_alloc | apply pw_below_drewN | apply below_drew1 | refine below_set ?_ GE302.out | refine below_set ?_ GE317.out) | exact HB.out)), fun _ => (by (with_reducible repeat (first | apply Kd.R_alloc | apply Kd.R_drewN | apply Kd.R_drew)); exact Kd.R_mono HO322.out (fun _ hk => ⟨hk.1.2, hk.2⟩)), fun _ => ⟨_, rfl⟩, z_HI305_e3, z_HO328, Q_HA_HO328, z_HI305_e8, z_BK302_e11, fun h0_ => absurd ((hoff 4 (by kernel_rfl)).symm.trans h0_) (by decide), Q_X9_⟩
              refine steps_cons ?_ ?_
              · rintro b a w' ⟨v321, adz_v321, v327, adz_v327, m4_, m9_, ha, Q_HO311, Q_HO315, Q_BK302, Q_BK317, Q_HI305, Q_HB, Q_HO322, Q_HA_HO322, Q_HI305_e3, Q_HO328, Q_HA_HO328, Q_HI305_e8, Q_BK302_e11, Q_X4_, Q_X9_⟩ hb_ hon hoff
                refine ⟨_, rfl, fun K hK => ?_⟩
                have e16 : a.tmps[16]? = some (.pointer (some ⟨g305, 0, none⟩)) := by rw [ha]; exact (putSel_off rfl).trans rfl
                replace ha := Aside0.mk ha
                have HO311 := Aside0.mk Q_HO311
                have HO315 := Aside0.mk Q_HO315
                have BK302 := Aside0.mk (Q_BK302 (hoff 11 (by kernel_rfl)))
                have BK317 := Aside0.mk Q_BK317
                have HI305 := Aside0.mk (Q_HI305 hb_)
                have HB := Aside0.mk Q_HB
                refine goes_ Try.func31 (by kernel_rfl) rfl #[.pointer (some ⟨g305, 0, none⟩), .int .i64 3] (by rfl) rfl rfl (by first | (simp only [List.map_toArray, List.map_cons, List.map_nil, Act.eval, Array.getD_eq_getD_getElem?, Option.getD_some, e16]; done) | (simp only [List.map_toArray, List.map_cons, List.map_nil, Act.eval, Array.getD_eq_getD_getElem?, Option.getD_some, e16]; rfl)) ?_
                with_reducible refine (spec_l6Rd_pick.calls k g305 t303 t319 3 t323 t324 w _ ?side1 ?side2 A6.out).mono ?_
                (case side1 => repeat (first | (with_reducible first | exact HI305.out | apply IsS76.alloc | apply IsS76.drewN | apply IsS76.drew | apply IsS76.set_1 | refine IsS76.far ?_ NB305_302.out _ | refine IsS76.far ?_ NB305_317.out _) | exact HI305.out))
                (case side2 => repeat (first | (with_reducible first | exact HB.out | apply below_alloc | apply pw_below_drewN | apply below_drew1 | refine below_set ?_ (IsS76.ge HI305.out) | refine below_set ?_ GE302.out | refine below_set ?_ GE317.out) | exact HB.out))
                rintro e w23 ⟨rfl, hi, hb, hk⟩
                refine ⟨_, rfl, ?_⟩
                have n0_ := Aside0.mk (KeepBut.blk hk (g' := gb302) (o := .cells #[.int .i64 0, .int .i64 0, .bool false, .slice none 0 0, .bool false, .slice none 0 0] 36 (0, 0)) (by (with_reducible repeat (first | refine blk_drewN ?_ _ | refine blk_drew ?_ | refine blk_alloc ?_ _)); exact BK302.out) NB302_305.out (by simp))
                have n1_ := Aside0.mk (Kd.R_mono (Kd.R_keep (IsS76.apart (show IsS76 w _ g305 t303 t319 from by repeat (first | (with_reducible first | exact HI305.out | apply IsS76.alloc | apply IsS76.drewN | apply IsS76.drew | apply IsS76.set_1 | refine IsS76.far ?_ NB305_302.out _ | refine IsS76.far ?_ NB305_317.out _) | exact HI305.out)) (by (with_reducible repeat (first | apply Kd.R_alloc | apply Kd.R_drewN | apply Kd.R_drew)); exact HO311.out) (by decide)) hk (fun _ h => h.2)) (fun _ h => h.1))
                have n2_ := Aside0.mk (Kd.R_mono (Kd.R_keep (IsS76.apart (show IsS76 w _ g305 t303 t319 from by repeat (first | (with_reducible first | exact HI305.out | apply IsS76.alloc | apply IsS76.drewN | apply IsS76.drew | apply IsS76.set_1 | refine IsS76.far ?_ NB305_302.out _ | refine IsS76.far ?_ NB305_317.out _) | exact HI305.out)) (by (with_reducible repeat (first | apply Kd.R_alloc | apply Kd.R_drewN | apply Kd.R_drew)); exact HO315.out) (by decide)) hk (fun _ h => h.2)) (fun _ h => h.1))
                have n3_ := Aside0.mk (KeepBut.blk hk (g' := gb317) (o := .cells #[.int .i64 t306, .int .i64 t307, .bool t308, .slice Ao19 t309.length co19, .bool t312, .slice Ao20 t313.length co20] 36 (0, 0)) (by (with_reducible repeat (first | refine blk_drewN ?_ _ | refine blk_drew ?_ | refine blk_alloc ?_ _)); exact BK317.out) NB317_305.out (by simp))
                have n4_ := Aside0.mk (hb)
                have n5_ := Aside0.mk (hi)
                have z_HO322 := fun (h0_ : b 1 = true) => (show Kd.R (Kd.int .i64) 3 w23 w.heap.size (fun k_ => some k_ ≠ (.slice Ao19 t309.length co19 : Value).ownBlock ∧ some k_ ≠ (.slice Ao20 t313.length co20 : Value).ownBlock) v321 y320 from by first | exact (Kd.R_mono (Kd.R_keep (IsS76.apart (show IsS76 w _ g305 t303 t319 from by repeat (first | (with_reducible first | exact HI305.out | apply IsS76.alloc | apply IsS76.drewN | apply IsS76.drew | apply IsS76.set_1 | refine IsS76.far ?_ NB305_302.out _ | refine IsS76.far ?_ NB305_317.out _) | exact HI305.out)) (by (with_reducible repeat (first | apply Kd.R_alloc | apply Kd.R_drewN | apply Kd.R_drew)); exact (Q_HO322 h0_)) (by decide)) hk (fun _ h => h.2)) (fun _ h => h.1)) | exact Kd.R_mono (Kd.R_mono (Kd.R_keep (IsS76.apart (show IsS76 w _ g305 t303 t319 from by repeat (first | (with_reducible first | exact HI305.out | apply IsS76.alloc | apply IsS76.drewN | apply IsS76.drew | apply IsS76.set_1 | refine IsS76.far ?_ NB305_302.out _ | refine IsS76.far ?_ NB305_317.out _) | exact HI305.out)) (by (with_reducible repeat (first | apply Kd.R_alloc | apply Kd.R_drewN | apply Kd.R_drew)); exact (Q_HO322 h0_)) (by decide)) hk (fun _ h => h.2)) (fun _ h => h.1)) (fun _ h_ => by first | trivial | exact h_ | exact h_.1))
                have z_HO328 := fun (h0_ : b 6 = true) => (show Kd.R (Kd.int .i64) 3 w23 w.heap.size (fun k_ => some k_ ≠ (.slice Ao19 t309.length co19 : Value).ownBlock ∧ some k_ ≠ (.slice Ao20 t313.length co20 : Value).ownBlock) v327 y326 from by first | exact (Kd.R_mono (Kd.R_keep (IsS76.apart (show IsS76 w _ g305 t303 t319 from by repeat (first | (with_reducible first | exact HI305.out | apply IsS76.alloc | apply IsS76.drewN | apply IsS76.drew | apply IsS76.set_1 | refine IsS76.far ?_ NB305_302.out _ | refine IsS76.far ?_ NB305_317.out _) | exact HI305.out)) (by (with_reducible repeat (first | apply Kd.R_alloc | apply Kd.R_drewN | apply Kd.R_drew)); exact (Q_HO328 h0_)) (by decide)) hk (fun _ h => h.2)) (fun _ h => h.1)) | exact Kd.R_mono (Kd.R_mono (Kd.R_keep (IsS76.apart (show IsS76 w _ g305 t303 t319 from by repeat (first | (with_reducible first | exact HI305.out | apply IsS76.alloc | apply IsS76.drewN | apply IsS76.drew | apply IsS76.set_1 | refine IsS76.far ?_ NB305_302.out _ | refine IsS76.far ?_ NB305_317.out _) | exact HI305.out)) (by (with_reducible repeat (first | apply Kd.R_alloc | apply Kd.R_drewN | apply Kd.R_drew)); exact (Q_HO328 h0_)) (by decide)) hk (fun _ h => h.2)) (fun _ h => h.1)) (fun _ h_ => by first | trivial | exact h_ | exact h_.1))
                clear BK302
                clear HO311
                clear HO315
                clear BK317
                clear HB
                clear HI305
                have BK302 := n0_
                have HO311 := n1_
                have HO315 := n2_
                have BK317 := n3_
                have HB := n4_
                have HI305 := n5_
                clear n0_ n1_ n2_ n3_ n4_ n5_
                (try clear hb)
                (try clear hb2)
                (try clear hk)
                (try clear hi)
                refine hK.out _ _ ⟨v321, adz_v321, v327, adz_v327, m4_, m9_, (by rw [ha.out]; exact putSel_upk 2 hb_ rfl rfl rfl), (by (with_reducible repeat (first | apply Kd.R_alloc | apply Kd.R_drewN | apply Kd.R_drew)); first | exact HO311.out | exact Kd.R_mono HO311.out (fun _ hk => hk.1)), (by (with_reducible repeat (first | apply Kd.R_alloc | apply Kd.R_drewN | apply Kd.R_drew)); first | exact HO315.out | exact Kd.R_mono HO315.out (fun _ hk => hk.1)), fun _ => (by (with_reducible repeat (first | refine blk_drewN ?_ _ | refine blk_drew ?_ | refine blk_alloc ?_ _)); exact BK302.out), (by (with_reducible repeat (first | refine blk_drewN ?_ _ | refine blk_drew ?_ | refine blk_alloc ?_ _)); exact BK317.out), fun h0_ => absurd ((up_self b 3).symm.trans h0_) (by decide), (by repeat (first | (with_reducible first | exact HB.out | apply below_alloc | apply pw_below_drewN | apply below_drew1 | refine below_set ?_ (IsS76.ge HI305.out) | refine below_set ?_ GE302.out | refine below_set ?_ GE317.out) | exact HB.out)), z_HO322, Q_HA_HO322, fun _ _ => (by repeat (first | (with_reducible first | exact HI305.out | apply IsS76.alloc | apply IsS76.drewN | apply IsS76.drew | apply IsS76.set_1 | refine IsS76.far ?_ NB305_302.out _ | refine IsS76.far ?_ NB305_317.out _) | exact HI305.out)), z_HO328, Q_HA_HO328, fun h0_ => absurd ((hoff 8 (by kernel_rfl)).symm.trans h0_) (by decide), fun h0_ => absurd ((hoff 11 (by kernel_rfl)).symm.trans h0_) (by decide), fun h0_ => absurd ((hoff 4 (by kernel_rfl)).symm.trans h0_) (by decide), fun h0_ => absurd ((hoff 9 (by kernel_rfl)).symm.trans h0_) (by decide)⟩
              refine steps_cons ?_ ?_
              · rintro b a w' ⟨v321, adz_v321, v327, adz_v327, m4_, m9_, ha, Q_HO311, Q_HO315, Q_BK302, Q_BK317, Q_HI305, Q_HB, Q_HO322, Q_HA_HO322, Q_HI305_e3, Q_HO328, Q_HA_HO328, Q_HI305_e8, Q_BK302_e11, Q_X4_, Q_X9_⟩ hb_ hon hoff
                refine ⟨_, rfl, fun K hK => ?_⟩
                have e15 : a.tmps[15]? = some (v321) := by rw [ha]; exact putSel_on (e := (1, 15, v321)) 1 rfl rfl (hon 1 (by kernel_rfl)) rfl
                have e17 : a.tmps[17]? = some (.int .i64 t323) := by rw [ha]; exact putSel_on (e := (3, 17, .int .i64 t323)) 2 rfl rfl (hon 3 (by kernel_rfl)) rfl
                replace ha := Aside0.mk ha
                have HO311 := Aside0.mk Q_HO311
                have HO315 := Aside0.mk Q_HO315
                have BK317 := Aside0.mk Q_BK317
                have HB := Aside0.mk Q_HB
                have HO322 := Aside0.mk (Q_HO322 (hon 1 (by kernel_rfl)))
                have HA_HO322 := Aside0.mk (Q_HA_HO322 (hon 1 (by kernel_rfl)))
                obtain ⟨c_, hv_⟩ := HA_HO322.out
                rw [hv_] at e15
                refine value_ (w1 := w') (v := .pointer (some (adz_v321.add (t323).toNat))) (by rfl) rfl ?_ ?_
                · go_simp
                  (try simp only [i64_w])
                  try rfl
                refine hK.out _ _ ⟨v321, adz_v321, v327, adz_v327, (.pointer (some (adz_v321.add (t323).toNat))), m9_, (by rw [ha.out]; exact putSel_upk 3 hb_ rfl rfl rfl), Q_HO311, Q_HO315, Q_BK302, Q_BK317, fun h0_ => absurd ((hon 3 (by kernel_rfl)).symm.trans h0_) (by decide), Q_HB, Q_HO322, Q_HA_HO322, Q_HI305_e3, Q_HO328, Q_HA_HO328, Q_HI305_e8, Q_BK302_e11, fun _ => rfl, Q_X9_⟩
              refine steps_cons ?_ ?_
              · rintro b a w' ⟨v321, adz_v321, v327, adz_v327, m4_, m9_, ha, Q_HO311, Q_HO315, Q_BK302, Q_BK317, Q_HI305, Q_HB, Q_HO322, Q_HA_HO322, Q_HI305_e3, Q_HO328, Q_HA_HO328, Q_HI305_e8, Q_BK302_e11, Q_X4_, Q_X9_⟩ hb_ hon hoff
                refine ⟨_, rfl, fun K hK => ?_⟩
                have e18 : a.tmps[18]? = some (m4_) := by rw [ha]; exact putSel_on (e := (4, 18, m4_)) 3 rfl rfl (hon 4 (by kernel_rfl)) rfl
                rw [Q_X4_ (hon 4 (by kernel_rfl))] at e18
                replace ha := Aside0.mk ha
                have HO311 := Aside0.mk Q_HO311
                have HO315 := Aside0.mk Q_HO315
                have BK317 := Aside0.mk Q_BK317
                have HB := Aside0.mk Q_HB
                have HO322 := Aside0.mk (Q_HO322 (hon 1 (by kernel_rfl)))
                have HA_HO322 := Aside0.mk (Q_HA_HO322 (hon 1 (by kernel_rfl)))
                obtain ⟨c_, hv_⟩ := HA_HO322.out
                have hF_ := HO322.out
                rw [hv_] at hF_
                obtain ⟨ad_, ea_, hx_⟩ := Kd.at_int (Kd.R_reads' hF_).2.2 t323 (of_eq_true pi325) (of_eq_true qi325)
                cases ea_
                refine value_ (w1 := w') (v := .int .i64 (rd y320 t323)) (by rfl) rfl ?_ ?_
                · go_simp
                  (try simp only [i64_w])
                  try rfl
                refine hK.out _ _ ⟨v321, adz_v321, v327, adz_v327, m4_, m9_, (by rw [ha.out]; exact putSel_upk 4 hb_ rfl rfl rfl), Q_HO311, Q_HO315, Q_BK302, Q_BK317, fun h0_ => absurd ((hon 3 (by kernel_rfl)).symm.trans h0_) (by decide), Q_HB, Q_HO322, Q_HA_HO322, Q_HI305_e3, Q_HO328, Q_HA_HO328, Q_HI305_e8, Q_BK302_e11, Q_X4_, Q_X9_⟩
              refine steps_cons ?_ ?_
              · rintro b a w' ⟨v321, adz_v321, v327, adz_v327, m4_, m9_, ha, Q_HO311, Q_HO315, Q_BK302, Q_BK317, Q_HI305, Q_HB, Q_HO322, Q_HA_HO322, Q_HI305_e3, Q_HO328, Q_HA_HO328, Q_HI305_e8, Q_BK302_e11, Q_X4_, Q_X9_⟩ hb_ hon hoff
                refine ⟨_, rfl, fun K hK => ?_⟩
                replace ha := Aside0.mk ha
                have HO311 := Aside0.mk Q_HO311
                have HO315 := Aside0.mk Q_HO315
                have BK317 := Aside0.mk Q_BK317
                have HB := Aside0.mk Q_HB
                refine Kd.R_lit_step (Kd.int .i64) _ 3 ?hg (N := 20) ?hd (xs := ([(-1), 99999, 100000] : List Int)) (inner := [.int .i64 (-1), .int .i64 99999, .int .i64 100000]) (ok := fun _ => True) (okp := fun _ => True) ?hr ?hp (fun _ hk => hk) trivial (Below.refl _ _) (Nat.le_refl _) (by simp) ?_; (case hd => rfl); (case hg => rfl); (case hr => first | (go_simp; done) | (go_simp; rfl)); (case hp => exact (Reps.one (show Kd.M (Kd.int .i64) _ _ _ (-1) [.int .i64 (-1)] from rfl) (Reps.one (show Kd.M (Kd.int .i64) _ _ _ 99999 [.int .i64 99999] from rfl) (Reps.one (show Kd.M (Kd.int .i64) _ _ _ 100000 [.int .i64 100000] from rfl) (Reps.none _ _)))))
                intro v327 w23 ho24 hb hg_ hnew_
                clear hg_ hnew_
                (first | rw [← Ny326.out] at ho24 | (simp only [Int.reduceToNat] at ho24; rw [← Ny326.out] at ho24))
                have n0_ := Aside0.mk (Kd.R_elder' (by (with_reducible repeat (first | apply Kd.R_alloc | apply Kd.R_drewN | apply Kd.R_drew)); exact HO311.out) (Kd.R_base ho24) hb)
                have n1_ := Aside0.mk (Kd.R_elder' (by (with_reducible repeat (first | apply Kd.R_alloc | apply Kd.R_drewN | apply Kd.R_drew)); exact HO315.out) (Kd.R_base ho24) hb)
                have n2_ := Aside0.mk (Kd.R_lower (Kd.R_new' (Kd.R_new' ho24 (Kd.R_lt (by (with_reducible repeat (first | apply Kd.R_alloc | apply Kd.R_drewN | apply Kd.R_drew)); exact HO311.out))) (Kd.R_lt (by (with_reducible repeat (first | apply Kd.R_alloc | apply Kd.R_drewN | apply Kd.R_drew)); exact HO315.out))) (below_size (by repeat (first | (with_reducible first | exact HB.out | apply below_alloc | apply pw_below_drewN | apply below_drew1 | refine below_set ?_ GE302.out | refine below_set ?_ GE317.out) | exact HB.out))))
                have n5_ := Aside0.mk (blk_below (g := gb317) (o := .cells #[.int .i64 t306, .int .i64 t307, .bool t308, .slice Ao19 t309.length co19, .bool t312, .slice Ao20 t313.length co20] 36 (0, 0)) (by (with_reducible repeat (first | refine blk_drewN ?_ _ | refine blk_drew ?_ | refine blk_alloc ?_ _)); exact BK317.out) hb)
                have n6_ := Aside0.mk (below_step (by repeat (first | (with_reducible first | exact HB.out | apply below_alloc | apply pw_below_drewN | apply below_drew1 | refine below_set ?_ GE302.out | refine below_set ?_ GE317.out) | exact HB.out)) hb)
                have z_BK302 := fun (h0_ : b 11 = false) => (show w23.heap[gb302]? = some (.cells #[.int .i64 0, .int .i64 0, .bool false, .slice none 0 0, .bool false, .slice none 0 0] 36 (0, 0)) from by first | exact (blk_below (g := gb302) (o := .cells #[.int .i64 0, .int .i64 0, .bool false, .slice none 0 0, .bool false, .slice none 0 0] 36 (0, 0)) (by (with_reducible repeat (first | refine blk_drewN ?_ _ | refine blk_drew ?_ | refine blk_alloc ?_ _)); exact (Q_BK302 h0_)) hb))
                have z_HI305 := fun (h0_ : b 3 = false) => (show IsS76 w w23 g305 t303 t319 from by first | exact (IsS76.below (by repeat (first | (with_reducible first | exact (Q_HI305 h0_) | apply IsS76.alloc | apply IsS76.drewN | apply IsS76.drew | apply IsS76.set_1 | refine IsS76.far ?_ NB305_302.out _ | refine IsS76.far ?_ NB305_317.out _) | exact (Q_HI305 h0_))) hb))
                have z_HO322 := fun (h0_ : b 1 = true) => (show Kd.R (Kd.int .i64) 3 w23 w.heap.size (fun k_ => some k_ ≠ (.slice Ao19 t309.length co19 : Value).ownBlock ∧ some k_ ≠ (.slice Ao20 t313.length co20 : Value).ownBlock) v321 y320 from by first | exact (Kd.R_elder' (by (with_reducible repeat (first | apply Kd.R_alloc | apply Kd.R_drewN | apply Kd.R_drew)); exact (Q_HO322 h0_)) (Kd.R_base ho24) hb) | exact Kd.R_mono (Kd.R_elder' (by (with_reducible repeat (first | apply Kd.R_alloc | apply Kd.R_drewN | apply Kd.R_drew)); exact (Q_HO322 h0_)) (Kd.R_base ho24) hb) (fun _ h_ => by first | trivial | exact h_ | exact h_.1))
                have z_HI305_e3 := fun (h0_ : b 3 = true) (h1_ : b 8 = false) => (show IsS76 w w23 g305 t303 t324 from by first | exact (IsS76.below (by repeat (first | (with_reducible first | exact (Q_HI305_e3 h0_ h1_) | apply IsS76.alloc | apply IsS76.drewN | apply IsS76.drew | apply IsS76.set_1 | refine IsS76.far ?_ NB305_302.out _ | refine IsS76.far ?_ NB305_317.out _) | exact (Q_HI305_e3 h0_ h1_))) hb))
                have z_HI305_e8 := fun (h0_ : b 8 = true) => (show IsS76 w w23 g305 t303 t330 from by first | exact (IsS76.below (by repeat (first | (with_reducible first | exact (Q_HI305_e8 h0_) | apply IsS76.alloc | apply IsS76.drewN | apply IsS76.drew | apply IsS76.set_1 | refine IsS76.far ?_ NB305_302.out _ | refine IsS76.far ?_ NB305_317.out _) | exact (Q_HI305_e8 h0_))) hb))
                have z_BK302_e11 := fun (h0_ : b 11 = true) => (show w23.heap[gb302]? = some (.cells #[.int .i64 t306, .int .i64 t307, .bool t308, .slice Ao19 t309.length co19, .bool t312, .slice Ao20 t313.length co20] 36 (0, 0)) from by first | exact (blk_below (g := gb302) (o := .cells #[.int .i64 t306, .int .i64 t307, .bool t308, .slice Ao19 t309.length co19, .bool t312, .slice Ao20 t313.length co20] 36 (0, 0)) (by (with_reducible repeat (first | refine blk_drewN ?_ _ | refine blk_drew ?_ | refine blk_alloc ?_ _)); exact (Q_BK302_e11 h0_)) hb))
                clear HO311
                clear HO315
                clear BK317
                clear HB
                have HO311 := n0_
                have HO315 := n1_
                have HO328 := n2_
                have BK317 := n5_
                have HB := n6_
                clear n0_ n1_ n2_ n5_ n6_
                clear hb ho24
                obtain ⟨Ao25, co25, eo25⟩ := Kd.R_slice HO328.out
                subst eo25
                obtain ⟨ado25, fo25, _⟩ := Kd.at_int (Kd.R_reads' HO328.out).2.2 0 (by decide) (by rw [Ny326.out]; simp)
                cases fo25
                refine hK.out _ _ ⟨v321, adz_v321, .slice (some ado25) y326.length co25, ado25, m4_, m9_, (by rw [ha.out]; exact putSel_upk 5 hb_ rfl rfl rfl), (by (with_reducible repeat (first | apply Kd.R_alloc | apply Kd.R_drewN | apply Kd.R_drew)); first | exact HO311.out | exact Kd.R_mono HO311.out (fun _ hk => hk.1)), (by (with_reducible repeat (first | apply Kd.R_alloc | apply Kd.R_drewN | apply Kd.R_drew)); first | exact HO315.out | exact Kd.R_mono HO315.out (fun _ hk => hk.1)), z_BK302, (by (with_reducible repeat (first | refine blk_drewN ?_ _ | refine blk_drew ?_ | refine blk_alloc ?_ _)); exact BK317.out), z_HI305, (by repeat (first | (with_reducible first | exact HB.out | apply below_alloc | apply pw_below_drewN | apply below_drew1 | refine below_set ?_ GE302.out | refine below_set ?_ GE317.out) | exact HB.out)), z_HO322, Q_HA_HO322, z_HI305_e3, fun _ => (by (with_reducible repeat (first | apply Kd.R_alloc | apply Kd.R_drewN | apply Kd.R_drew)); exact Kd.R_mono HO328.out (fun _ hk => ⟨hk.1.2, hk.2⟩)), fun _ => ⟨_, rfl⟩, z_HI305_e8, z_BK302_e11, Q_X4_, fun h0_ => absurd ((hoff 9 (by kernel_rfl)).symm.trans h0_) (by decide)⟩
              refine steps_cons ?_ ?_
              · rintro b a w' ⟨v321, adz_v321, v327, adz_v327, m4_, m9_, ha, Q_HO311, Q_HO315, Q_BK302, Q_BK317, Q_HI305, Q_HB, Q_HO322, Q_HA_HO322, Q_HI305_e3, Q_HO328, Q_HA_HO328, Q_HI305_e8, Q_BK302_e11, Q_X4_, Q_X9_⟩ hb_ hon hoff
                refine ⟨_, rfl, fun K hK => ?_⟩
                have e21 : a.tmps[21]? = some (.pointer (some ⟨g305, 0, none⟩)) := by rw [ha]; exact (putSel_off rfl).trans rfl
                replace ha := Aside0.mk ha
                have HO311 := Aside0.mk Q_HO311
                have HO315 := Aside0.mk Q_HO315
                have BK302 := Aside0.mk (Q_BK302 (hoff 11 (by kernel_rfl)))
                have BK317 := Aside0.mk Q_BK317
                have HB := Aside0.mk Q_HB
                have HI305 := Aside0.mk (Q_HI305_e3 (hon 3 (by kernel_rfl)) hb_)
                refine goes_ Try.func31 (by kernel_rfl) rfl #[.pointer (some ⟨g305, 0, none⟩), .int .i64 3] (by rfl) rfl rfl (by first | (simp only [List.map_toArray, List.map_cons, List.map_nil, Act.eval, Array.getD_eq_getD_getElem?, Option.getD_some, e21]; done) | (simp only [List.map_toArray, List.map_cons, List.map_nil, Act.eval, Array.getD_eq_getD_getElem?, Option.getD_some, e21]; rfl)) ?_
                with_reducible refine (spec_l6Rd_pick.calls k g305 t303 t324 3 t329 t330 w _ ?side1 ?side2 A9.out).mono ?_
                (case side1 => repeat (first | (with_reducible first | exact HI305.out | apply IsS76.alloc | apply IsS76.drewN | apply IsS76.drew | apply IsS76.set_1 | refine IsS76.far ?_ NB305_302.out _ | refine IsS76.far ?_ NB305_317.out _) | exact HI305.out))
                (case side2 => repeat (first | (with_reducible first | exact HB.out | apply below_alloc | apply pw_below_drewN | apply below_drew1 | refine below_set ?_ (IsS76.ge HI305.out) | refine below_set ?_ GE302.out | refine below_set ?_ GE317.out) | exact HB.out))
                rintro e w25 ⟨rfl, hi, hb, hk⟩
                refine ⟨_, rfl, ?_⟩
                have n0_ := Aside0.mk (KeepBut.blk hk (g' := gb302) (o := .cells #[.int .i64 0, .int .i64 0, .bool false, .slice none 0 0, .bool false, .slice none 0 0] 36 (0, 0)) (by (with_reducible repeat (first | refine blk_drewN ?_ _ | refine blk_drew ?_ | refine blk_alloc ?_ _)); exact BK302.out) NB302_305.out (by simp))
                have n1_ := Aside0.mk (Kd.R_mono (Kd.R_keep (IsS76.apart (show IsS76 w _ g305 t303 t324 from by repeat (first | (with_reducible first | exact HI305.out | apply IsS76.alloc | apply IsS76.drewN | apply IsS76.drew | apply IsS76.set_1 | refine IsS76.far ?_ NB305_302.out _ | refine IsS76.far ?_ NB305_317.out _) | exact HI305.out)) (by (with_reducible repeat (first | apply Kd.R_alloc | apply Kd.R_drewN | apply Kd.R_drew)); exact HO311.out) (by decide)) hk (fun _ h => h.2)) (fun _ h => h.1))
                have n2_ := Aside0.mk (Kd.R_mono (Kd.R_keep (IsS76.apart (show IsS76 w _ g305 t303 t324 from by repeat (first | (with_reducible first | exact HI305.out | apply IsS76.alloc | apply IsS76.drewN | apply IsS76.drew | apply IsS76.set_1 | refine IsS76.far ?_ NB305_302.out _ | refine IsS76.far ?_ NB305_317.out _) | exact HI305.out)) (by (with_reducible repeat (first | apply Kd.R_alloc | apply Kd.R_drewN | apply Kd.R_drew)); exact HO315.out) (by decide)) hk (fun _ h => h.2)) (fun _ h => h.1))
                have n3_ := Aside0.mk (KeepBut.blk hk (g' := gb317) (o := .cells #[.int .i64 t306, .int .i64 t307, .bool t308, .slice Ao19 t309.length co19, .bool t312, .slice Ao20 t313.length co20] 36 (0, 0)) (by (with_reducible repeat (first | refine blk_drewN ?_ _ | refine blk_drew ?_ | refine blk_alloc ?_ _)); exact BK317.out) NB317_305.out (by simp))
                have n4_ := Aside0.mk (hb)
                have n5_ := Aside0.mk (hi)
                have z_HO322 := fun (h0_ : b 1 = true) => (show Kd.R (Kd.int .i64) 3 w25 w.heap.size (fun k_ => some k_ ≠ (.slice Ao19 t309.length co19 : Value).ownBlock ∧ some k_ ≠ (.slice Ao20 t313.length co20 : Value).ownBlock) v321 y320 from by first | exact (Kd.R_mono (Kd.R_keep (IsS76.apart (show IsS76 w _ g305 t303 t324 from by repeat (first | (with_reducible first | exact HI305.out | apply IsS76.alloc | apply IsS76.drewN | apply IsS76.drew | apply IsS76.set_1 | refine IsS76.far ?_ NB305_302.out _ | refine IsS76.far ?_ NB305_317.out _) | exact HI305.out)) (by (with_reducible repeat (first | apply Kd.R_alloc | apply Kd.R_drewN | apply Kd.R_drew)); exact (Q_HO322 h0_)) (by decide)) hk (fun _ h => h.2)) (fun _ h => h.1)) | exact Kd.R_mono (Kd.R_mono (Kd.R_keep (IsS76.apart (show IsS76 w _ g305 t303 t324 from by repeat (first | (with_reducible first | exact HI305.out | apply IsS76.alloc | apply IsS76.drewN | apply IsS76.drew | apply IsS76.set_1 | refine IsS76.far ?_ NB305_302.out _ | refine IsS76.far ?_ NB305_317.out _) | exact HI305.out)) (by (with_reducible repeat (first | apply Kd.R_alloc | apply Kd.R_drewN | apply Kd.R_drew)); exact (Q_HO322 h0_)) (by decide)) hk (fun _ h => h.2)) (fun _ h => h.1)) (fun _ h_ => by first | trivial | exact h_ | exact h_.1))
                have z_HO328 := fun (h0_ : b 6 = true) => (show Kd.R (Kd.int .i64) 3 w25 w.heap.size (fun k_ => some k_ ≠ (.slice Ao19 t309.length co19 : Value).ownBlock ∧ some k_ ≠ (.slice Ao20 t313.length co20 : Value).ownBlock) v327 y326 from by first | exact (Kd.R_mono (Kd.R_keep (IsS76.apart (show IsS76 w _ g305 t303 t324 from by repeat (first | (with_reducible first | exact HI305.out | apply IsS76.alloc | apply IsS76.drewN | apply IsS76.drew | apply IsS76.set_1 | refine IsS76.far ?_ NB305_302.out _ | refine IsS76.far ?_ NB305_317.out _) | exact HI305.out)) (by (with_reducible repeat (first | apply Kd.R_alloc | apply Kd.R_drewN | apply Kd.R_drew)); exact (Q_HO328 h0_)) (by decide)) hk (fun _ h => h.2)) (fun _ h => h.1)) | exact Kd.R_mono (Kd.R_mono (Kd.R_keep (IsS76.apart (show IsS76 w _ g305 t303 t324 from by repeat (first | (with_reducible first | exact HI305.out | apply IsS76.alloc | apply IsS76.drewN | apply IsS76.drew | apply IsS76.set_1 | refine IsS76.far ?_ NB305_302.out _ | refine IsS76.far ?_ NB305_317.out _) | exact HI305.out)) (by (with_reducible repeat (first | apply Kd.R_alloc | apply Kd.R_drewN | apply Kd.R_drew)); exact (Q_HO328 h0_)) (by decide)) hk (fun _ h => h.2)) (fun _ h => h.1)) (fun _ h_ => by first | trivial | exact h_ | exact h_.1))
                clear BK302
                clear HO311
                clear HO315
                clear BK317
                clear HB
                clear HI305
                have BK302 := n0_
                have HO311 := n1_
                have HO315 := n2_
                have BK317 := n3_
                have HB := n4_
                have HI305 := n5_
                clear n0_ n1_ n2_ n3_ n4_ n5_
                (try clear hb)
                (try clear hb2)
                (try clear hk)
                (try clear hi)
                refine hK.out _ _ ⟨v321, adz_v321, v327, adz_v327, m4_, m9_, (by rw [ha.out]; exact putSel_upk 6 hb_ rfl rfl rfl), (by (with_reducible repeat (first | apply Kd.R_alloc | apply Kd.R_drewN | apply Kd.R_drew)); first | exact HO311.out | exact Kd.R_mono HO311.out (fun _ hk => hk.1)), (by (with_reducible repeat (first | apply Kd.R_alloc | apply Kd.R_drewN | apply Kd.R_drew)); first | exact HO315.out | exact Kd.R_mono HO315.out (fun _ hk => hk.1)), fun _ => (by (with_reducible repeat (first | refine blk_drewN ?_ _ | refine blk_drew ?_ | refine blk_alloc ?_ _)); exact BK302.out), (by (with_reducible repeat (first | refine blk_drewN ?_ _ | refine blk_drew ?_ | refine blk_alloc ?_ _)); exact BK317.out), fun h0_ => absurd ((hon 3 (by kernel_rfl)).symm.trans h0_) (by decide), (by repeat (first | (with_reducible first | exact HB.out | apply below_alloc | apply pw_below_drewN | apply below_drew1 | refine below_set ?_ (IsS76.ge HI305.out) | refine below_set ?_ GE302.out | refine below_set ?_ GE317.out) | exact HB.out)), z_HO322, Q_HA_HO322, fun _ h1_ => absurd ((up_self b 8).symm.trans h1_) (by decide), z_HO328, Q_HA_HO328, fun _ => (by repeat (first | (with_reducible first | exact HI305.out | apply IsS76.alloc | apply IsS76.drewN | apply IsS76.drew | apply IsS76.set_1 | refine IsS76.far ?_ NB305_302.out _ | refine IsS76.far ?_ NB305_317.out _) | exact HI305.out)), fun h0_ => absurd ((hoff 11 (by kernel_rfl)).symm.trans h0_) (by decide), Q_X4_, fun h0_ => absurd ((hoff 9 (by kernel_rfl)).symm.trans h0_) (by decide)⟩
              refine steps_cons ?_ ?_
              · rintro b a w' ⟨v321, adz_v321, v327, adz_v327, m4_, m9_, ha, Q_HO311, Q_HO315, Q_BK302, Q_BK317, Q_HI305, Q_HB, Q_HO322, Q_HA_HO322, Q_HI305_e3, Q_HO328, Q_HA_HO328, Q_HI305_e8, Q_BK302_e11, Q_X4_, Q_X9_⟩ hb_ hon hoff
                refine ⟨_, rfl, fun K hK => ?_⟩
                have e20 : a.tmps[20]? = some (v327) := by rw [ha]; exact putSel_on (e := (6, 20, v327)) 5 rfl rfl (hon 6 (by kernel_rfl)) rfl
                have e22 : a.tmps[22]? = some (.int .i64 t329) := by rw [ha]; exact putSel_on (e := (8, 22, .int .i64 t329)) 6 rfl rfl (hon 8 (by kernel_rfl)) rfl
                replace ha := Aside0.mk ha
                have HO311 := Aside0.mk Q_HO311
                have HO315 := Aside0.mk Q_HO315
                have BK317 := Aside0.mk Q_BK317
                have HB := Aside0.mk Q_HB
                have HO328 := Aside0.mk (Q_HO328 (hon 6 (by kernel_rfl)))
                have HA_HO328 := Aside0.mk (Q_HA_HO328 (hon 6 (by kernel_rfl)))
                have HI305 := Aside0.mk (Q_HI305_e8 (hon 8 (by kernel_rfl)))
                obtain ⟨c_, hv_⟩ := HA_HO328.out
                rw [hv_] at e20
                refine value_ (w1 := w') (v := .pointer (some (adz_v327.add (t329).toNat))) (by rfl) rfl ?_ ?_
                · go_simp
                  (try simp only [i64_w])
                  try rfl
                refine hK.out _ _ ⟨v321, adz_v321, v327, adz_v327, m4_, (.pointer (some (adz_v327.add (t329).toNat))), (by rw [ha.out]; exact putSel_upk 7 hb_ rfl rfl rfl), Q_HO311, Q_HO315, Q_BK302, Q_BK317, fun h0_ => absurd ((hon 3 (by kernel_rfl)).symm.trans h0_) (by decide), Q_HB, Q_HO322, Q_HA_HO322, fun _ h1_ => absurd ((hon 8 (by kernel_rfl)).symm.trans h1_) (by decide), Q_HO328, Q_HA_HO328, Q_HI305_e8, Q_BK302_e11, Q_X4_, fun _ => rfl⟩
              refine steps_cons ?_ ?_
              · rintro b a w' ⟨v321, adz_v321, v327, adz_v327, m4_, m9_, ha, Q_HO311, Q_HO315, Q_BK302, Q_BK317, Q_HI305, Q_HB, Q_HO322, Q_HA_HO322, Q_HI305_e3, Q_HO328, Q_HA_HO328, Q_HI305_e8, Q_BK302_e11, Q_X4_, Q_X9_⟩ hb_ hon hoff
                refine ⟨_, rfl, fun K hK => ?_⟩
                have e23 : a.tmps[23]? = some (m9_) := by rw [ha]; exact putSel_on (e := (9, 23, m9_)) 7 rfl rfl (hon 9 (by kernel_rfl)) rfl
                rw [Q_X9_ (hon 9 (by kernel_rfl))] at e23
                replace ha := Aside0.mk ha
                have HO311 := Aside0.mk Q_HO311
                have HO315 := Aside0.mk Q_HO315
                have BK317 := Aside0.mk Q_BK317
                have HB := Aside0.mk Q_HB
                have HO328 := Aside0.mk (Q_HO328 (hon 6 (by kernel_rfl)))
                have HA_HO328 := Aside0.mk (Q_HA_HO328 (hon 6 (by kernel_rfl)))
                have HI305 := Aside0.mk (Q_HI305_e8 (hon 8 (by kernel_rfl)))
                obtain ⟨c_, hv_⟩ := HA_HO328.out
                have hF_ := HO328.out
                rw [hv_] at hF_
                obtain ⟨ad_, ea_, hx_⟩ := Kd.at_int (Kd.R_reads' hF_).2.2 t329 (of_eq_true pi331) (of_eq_true qi331)
                cases ea_
                refine value_ (w1 := w') (v := .int .i64 (rd y326 t329)) (by rfl) rfl ?_ ?_
                · go_simp
                  (try simp only [i64_w])
                  try rfl
                refine hK.out _ _ ⟨v321, adz_v321, v327, adz_v327, m4_, m9_, (by rw [ha.out]; exact putSel_upk 8 hb_ rfl rfl rfl), Q_HO311, Q_HO315, Q_BK302, Q_BK317, fun h0_ => absurd ((hon 3 (by kernel_rfl)).symm.trans h0_) (by decide), Q_HB, Q_HO322, Q_HA_HO322, fun _ h1_ => absurd ((hon 8 (by kernel_rfl)).symm.trans h1_) (by decide), Q_HO328, Q_HA_HO328, Q_HI305_e8, Q_BK302_e11, Q_X4_, Q_X9_⟩
              refine steps_cons ?_ ?_
              · rintro b a w' ⟨v321, adz_v321, v327, adz_v327, m4_, m9_, ha, Q_HO311, Q_HO315, Q_BK302, Q_BK317, Q_HI305, Q_HB, Q_HO322, Q_HA_HO322, Q_HI305_e3, Q_HO328, Q_HA_HO328, Q_HI305_e8, Q_BK302_e11, Q_X4_, Q_X9_⟩ hb_ hon hoff
                refine ⟨_, rfl, fun K hK => ?_⟩
                have e2 : a.tmps[2]? = some (.pointer (some ⟨gb302, 0, none⟩)) := by rw [ha]; exact (putSel_off rfl).trans rfl
                have e14 : a.tmps[14]? = some (.agg #[.int .i64 t306, .int .i64 t307, .bool t308, .slice Ao19 t309.length co19, .bool t312, .slice Ao20 t313.length co20]) := by rw [ha]; exact putSel_on (e := (0, 14, .agg #[.int .i64 t306, .int .i64 t307, .bool t308, .slice Ao19 t309.length co19, .bool t312, .slice Ao20 t313.length co20])) 0 rfl rfl (hon 0 (by kernel_rfl)) rfl
                replace ha := Aside0.mk ha
                have HO311 := Aside0.mk Q_HO311
                have HO315 := Aside0.mk Q_HO315
                have BK302 := Aside0.mk (Q_BK302 hb_)
                have BK317 := Aside0.mk Q_BK317
                have HB := Aside0.mk Q_HB
                have HI305 := Aside0.mk (Q_HI305_e8 (hon 8 (by kernel_rfl)))
                have hs26 : w'.cell? ⟨gb302, 0, none⟩ = some (.int .i64 0) := (blk_cell BK302.out 0).trans rfl
                have hfs26 := blk_frozen BK302.out 0
                have hns26_1 := NB317_302.out
                have hms26_1 := NB302_317.out
                have hs27 : w'.cell? ⟨gb302, 1, none⟩ = some (.int .i64 0) := (blk_cell BK302.out 1).trans rfl
                have hfs27 := blk_frozen BK302.out 1
                have hns27_1 := NB317_302.out
                have hms27_1 := NB302_317.out
                have hs28 : w'.cell? ⟨gb302, 2, none⟩ = some (.bool false) := (blk_cell BK302.out 2).trans rfl
                have hfs28 := blk_frozen BK302.out 2
                have hns28_1 := NB317_302.out
                have hms28_1 := NB302_317.out
                have hs29 : w'.cell? ⟨gb302, 3, none⟩ = some (.slice none 0 0) := (blk_cell BK302.out 3).trans rfl
                have hfs29 := blk_frozen BK302.out 3
                have hns29_1 := NB317_302.out
                have hms29_1 := NB302_317.out
                have hs30 : w'.cell? ⟨gb302, 4, none⟩ = some (.bool false) := (blk_cell BK302.out 4).trans rfl
                have hfs30 := blk_frozen BK302.out 4
                have hns30_1 := NB317_302.out
                have hms30_1 := NB302_317.out
                have hs31 : w'.cell? ⟨gb302, 5, none⟩ = some (.slice none 0 0) := (blk_cell BK302.out 5).trans rfl
                have hfs31 := blk_frozen BK302.out 5
                have hns31_1 := NB317_302.out
                have hms31_1 := NB302_317.out
                refine skip_ (w1 := ?_) (by rfl) rfl ?_ ?_
                rotate_left
                · go_simp
                  rfl
                refine hK.out _ _ ⟨v321, adz_v321, v327, adz_v327, m4_, m9_, (by rw [ha.out]; exact putSel_none (v := undef) rfl), (by (with_reducible repeat (first | apply Kd.R_alloc | apply Kd.R_drewN | apply Kd.R_drew)); exact Kd.R_mono (Kd.R_far (p := ⟨gb302, 5, none⟩) (Kd.R_far (p := ⟨gb302, 4, none⟩) (Kd.R_far (p := ⟨gb302, 3, none⟩) (Kd.R_far (p := ⟨gb302, 2, none⟩) (Kd.R_far (p := ⟨gb302, 1, none⟩) (Kd.R_far (p := ⟨gb302, 0, none⟩) (Kd.R_types HO311.out BK302.out (by decide)) (fun _ hk => hk.2) (.int .i64 t306)) (fun _ hk => hk.2) (.int .i64 t307)) (fun _ hk => hk.2) (.bool t308)) (fun _ hk => hk.2) (.slice Ao19 t309.length co19)) (fun _ hk => hk.2) (.bool t312)) (fun _ hk => hk.2) (.slice Ao20 t313.length co20)) (fun _ hk => hk.1)), (by (with_reducible repeat (first | apply Kd.R_alloc | apply Kd.R_drewN | apply Kd.R_drew)); exact Kd.R_mono (Kd.R_far (p := ⟨gb302, 5, none⟩) (Kd.R_far (p := ⟨gb302, 4, none⟩) (Kd.R_far (p := ⟨gb302, 3, none⟩) (Kd.R_far (p := ⟨gb302, 2, none⟩) (Kd.R_far (p := ⟨gb302, 1, none⟩) (Kd.R_far (p := ⟨gb302, 0, none⟩) (Kd.R_types HO315.out BK302.out (by decide)) (fun _ hk => hk.2) (.int .i64 t306)) (fun _ hk => hk.2) (.int .i64 t307)) (fun _ hk => hk.2) (.bool t308)) (fun _ hk => hk.2) (.slice Ao19 t309.length co19)) (fun _ hk => hk.2) (.bool t312)) (fun _ hk => hk.2) (.slice Ao20 t313.length co20)) (fun _ hk => hk.1)), fun h0_ => absurd ((up_self b 11).symm.trans h0_) (by decide), (by (with_reducible repeat (first | refine blk_drewN ?_ _ | refine blk_drew ?_ | refine blk_alloc ?_ _)); refine blk_far ?_ NB317_302.out _; (with_reducible repeat (first | refine blk_drewN ?_ _ | refine blk_drew ?_ | refine blk_alloc ?_ _)); refine blk_far ?_ NB317_302.out _; (with_reducible repeat (first | refine blk_drewN ?_ _ | refine blk_drew ?_ | refine blk_alloc ?_ _)); refine blk_far ?_ NB317_302.out _; (with_reducible repeat (first | refine blk_drewN ?_ _ | refine blk_drew ?_ | refine blk_alloc ?_ _)); refine blk_far ?_ NB317_302.out _; (with_reducible repeat (first | refine blk_drewN ?_ _ | refine blk_drew ?_ | refine blk_alloc ?_ _)); refine blk_far ?_ NB317_302.out _; (with_reducible repeat (first | refine blk_drewN ?_ _ | refine blk_drew ?_ | refine blk_alloc ?_ _)); refine blk_far ?_ NB317_302.out _; (with_reducible repeat (first | refine blk_drewN ?_ _ | refine blk_drew ?_ | refine blk_alloc ?_ _)); exact BK317.out), fun h0_ => absurd ((hon 3 (by kernel_rfl)).symm.trans h0_) (by decide), (by repeat (first | (with_reducible first | exact HB.out | apply below_alloc | apply pw_below_drewN | apply below_drew1 | refine below_set ?_ (IsS76.ge HI305.out) | refine below_set ?_ GE302.out | refine below_set ?_ GE317.out) | exact HB.out)), fun h0_ => (by (with_reducible repeat (first | apply Kd.R_alloc | apply Kd.R_drewN | apply Kd.R_drew)); exact Kd.R_mono (Kd.R_far (p := ⟨gb302, 5, none⟩) (Kd.R_far (p := ⟨gb302, 4, none⟩) (Kd.R_far (p := ⟨gb302, 3, none⟩) (Kd.R_far (p := ⟨gb302, 2, none⟩) (Kd.R_far (p := ⟨gb302, 1, none⟩) (Kd.R_far (p := ⟨gb302, 0, none⟩) (Kd.R_types (Q_HO322 h0_) BK302.out (by decide)) (fun _ hk => hk.2) (.int .i64 t306)) (fun _ hk => hk.2) (.int .i64 t307)) (fun _ hk => hk.2) (.bool t308)) (fun _ hk => hk.2) (.slice Ao19 t309.length co19)) (fun _ hk => hk.2) (.bool t312)) (fun _ hk => hk.2) (.slice Ao20 t313.length co20)) (fun _ hk => ⟨hk.1.1, hk.1.2⟩)), Q_HA_HO322, fun _ h1_ => absurd ((hon 8 (by kernel_rfl)).symm.trans h1_) (by decide), fun h0_ => (by (with_reducible repeat (first | apply Kd.R_alloc | apply Kd.R_drewN | apply Kd.R_drew)); exact Kd.R_mono (Kd.R_far (p := ⟨gb302, 5, none⟩) (Kd.R_far (p := ⟨gb302, 4, none⟩) (Kd.R_far (p := ⟨gb302, 3, none⟩) (Kd.R_far (p := ⟨gb302, 2, none⟩) (Kd.R_far (p := ⟨gb302, 1, none⟩) (Kd.R_far (p := ⟨gb302, 0, none⟩) (Kd.R_types (Q_HO328 h0_) BK302.out (by decide)) (fun _ hk => hk.2) (.int .i64 t306)) (fun _ hk => hk.2) (.int .i64 t307)) (fun _ hk => hk.2) (.bool t308)) (fun _ hk => hk.2) (.slice Ao19 t309.length co19)) (fun _ hk => hk.2) (.bool t312)) (fun _ hk => hk.2) (.slice Ao20 t313.length co20)) (fun _ hk => ⟨hk.1.1, hk.1.2⟩)), Q_HA_HO328, fun _ => (by repeat (first | (with_reducible first | exact HI305.out | apply IsS76.alloc | apply IsS76.drewN | apply IsS76.drew | apply IsS76.set_1 | refine IsS76.far ?_ NB305_302.out _ | refine IsS76.far ?_ NB305_317.out _) | exact HI305.out)), fun _ => (by (with_reducible repeat (first | refine blk_drewN ?_ _ | refine blk_drew ?_ | refine blk_alloc ?_ _)); refine blk_put (cs := #[.int .i64 t306, .int .i64 t307, .bool t308, .slice Ao19 t309.length co19, .bool t312, .slice none 0 0]) ?_ 5 _ rfl; (with_reducible repeat (first | refine blk_drewN ?_ _ | refine blk_drew ?_ | refine blk_alloc ?_ _)); refine blk_put (cs := #[.int .i64 t306, .int .i64 t307, .bool t308, .slice Ao19 t309.length co19, .bool false, .slice none 0 0]) ?_ 4 _ rfl; (with_reducible repeat (first | refine blk_drewN ?_ _ | refine blk_drew ?_ | refine blk_alloc ?_ _)); refine blk_put (cs := #[.int .i64 t306, .int .i64 t307, .bool t308, .slice none 0 0, .bool false, .slice none 0 0]) ?_ 3 _ rfl; (with_reducible repeat (first | refine blk_drewN ?_ _ | refine blk_drew ?_ | refine blk_alloc ?_ _)); refine blk_put (cs := #[.int .i64 t306, .int .i64 t307, .bool false, .slice none 0 0, .bool false, .slice none 0 0]) ?_ 2 _ rfl; (with_reducible repeat (first | refine blk_drewN ?_ _ | refine blk_drew ?_ | refine blk_alloc ?_ _)); refine blk_put (cs := #[.int .i64 t306, .int .i64 0, .bool false, .slice none 0 0, .bool false, .slice none 0 0]) ?_ 1 _ rfl; (with_reducible repeat (first | refine blk_drewN ?_ _ | refine blk_drew ?_ | refine blk_alloc ?_ _)); refine blk_put (cs := #[.int .i64 0, .int .i64 0, .bool false, .slice none 0 0, .bool false, .slice none 0 0]) ?_ 0 _ rfl; (with_reducible repeat (first | refine blk_drewN ?_ _ | refine blk_drew ?_ | refine blk_alloc ?_ _)); exact BK302.out), Q_X4_, Q_X9_⟩
              refine steps_cons ?_ ?_
              · rintro b a w' ⟨v321, adz_v321, v327, adz_v327, m4_, m9_, ha, Q_HO311, Q_HO315, Q_BK302, Q_BK317, Q_HI305, Q_HB, Q_HO322, Q_HA_HO322, Q_HI305_e3, Q_HO328, Q_HA_HO328, Q_HI305_e8, Q_BK302_e11, Q_X4_, Q_X9_⟩ hb_ hon hoff
                refine ⟨_, rfl, fun K hK => ?_⟩
                have e19 : a.tmps[19]? = some (.int .i64 (rd y320 t323)) := by rw [ha]; exact putSel_on (e := (5, 19, .int .i64 (rd y320 t323))) 4 rfl rfl (hon 5 (by kernel_rfl)) rfl
                replace ha := Aside0.mk ha
                have HO311 := Aside0.mk Q_HO311
                have HO315 := Aside0.mk Q_HO315
                have BK317 := Aside0.mk Q_BK317
                have HB := Aside0.mk Q_HB
                have HO322 := Aside0.mk (Q_HO322 (hon 1 (by kernel_rfl)))
                have HA_HO322 := Aside0.mk (Q_HA_HO322 (hon 1 (by kernel_rfl)))
                have HI305 := Aside0.mk (Q_HI305_e8 (hon 8 (by kernel_rfl)))
                have BK302 := Aside0.mk (Q_BK302_e11 (hon 11 (by kernel_rfl)))
                refine value_ (w1 := w') (v := .int .i64 (rd y320 t323)) (by rfl) rfl ?_ ?_
                · go_simp
                  (try simp only [i64_w])
                  try rfl
                refine hK.out _ _ ⟨v321, adz_v321, v327, adz_v327, m4_, m9_, (by rw [ha.out]; exact putSel_upk 9 hb_ rfl rfl rfl), Q_HO311, Q_HO315, fun h0_ => absurd ((hon 11 (by kernel_rfl)).symm.trans h0_) (by decide), Q_BK317, fun h0_ => absurd ((hon 3 (by kernel_rfl)).symm.trans h0_) (by decide), Q_HB, Q_HO322, Q_HA_HO322, fun _ h1_ => absurd ((hon 8 (by kernel_rfl)).symm.trans h1_) (by decide), Q_HO328, Q_HA_HO328, Q_HI305_e8, Q_BK302_e11, Q_X4_, Q_X9_⟩
              refine steps_cons ?_ ?_
              · rintro b a w' ⟨v321, adz_v321, v327, adz_v327, m4_, m9_, ha, Q_HO311, Q_HO315, Q_BK302, Q_BK317, Q_HI305, Q_HB, Q_HO322, Q_HA_HO322, Q_HI305_e3, Q_HO328, Q_HA_HO328, Q_HI305_e8, Q_BK302_e11, Q_X4_, Q_X9_⟩ hb_ hon hoff
                refine ⟨_, rfl, fun K hK => ?_⟩
                have e24 : a.tmps[24]? = some (.int .i64 (rd y326 t329)) := by rw [ha]; exact putSel_on (e := (10, 24, .int .i64 (rd y326 t329))) 8 rfl rfl (hon 10 (by kernel_rfl)) rfl
                replace ha := Aside0.mk ha
                have HO311 := Aside0.mk Q_HO311
                have HO315 := Aside0.mk Q_HO315
                have BK317 := Aside0.mk Q_BK317
                have HB := Aside0.mk Q_HB
                have HO322 := Aside0.mk (Q_HO322 (hon 1 (by kernel_rfl)))
                have HA_HO322 := Aside0.mk (Q_HA_HO322 (hon 1 (by kernel_rfl)))
                have HO328 := Aside0.mk (Q_HO328 (hon 6 (by kernel_rfl)))
                have HA_HO328 := Aside0.mk (Q_HA_HO328 (hon 6 (by kernel_rfl)))
                have HI305 := Aside0.mk (Q_HI305_e8 (hon 8 (by kernel_rfl)))
                have BK302 := Aside0.mk (Q_BK302_e11 (hon 11 (by kernel_rfl)))
                refine value_ (w1 := w') (v := .int .i64 (rd y326 t329)) (by rfl) rfl ?_ ?_
                · go_simp
                  (try simp only [i64_w])
                  try rfl
                refine hK.out _ _ ⟨v321, adz_v321, v327, adz_v327, m4_, m9_, (by rw [ha.out]; exact putSel_upk 10 hb_ rfl rfl rfl), Q_HO311, Q_HO315, fun h0_ => absurd ((hon 11 (by kernel_rfl)).symm.trans h0_) (by decide), Q_BK317, fun h0_ => absurd ((hon 3 (by kernel_rfl)).symm.trans h0_) (by decide), Q_HB, Q_HO322, Q_HA_HO322, fun _ h1_ => absurd ((hon 8 (by kernel_rfl)).symm.trans h1_) (by decide), Q_HO328, Q_HA_HO328, Q_HI305_e8, Q_BK302_e11, Q_X4_, Q_X9_⟩
              exact steps_nil
            rintro b a w37 hall ⟨v321, adz_v321, v327, adz_v327, m4_, m9_, ha, Q_HO311, Q_HO315, Q_BK302, Q_BK317, Q_HI305, Q_HB, Q_HO322, Q_HA_HO322, Q_HI305_e3, Q_HO328, Q_HA_HO328, Q_HI305_e8, Q_BK302_e11, Q_X4_, Q_X9_⟩
            clear BK302 BK317 HB HI305 HO311 HO315
            have hb0_ := hall 0 (by kernel_rfl)
            have hb1_ := hall 1 (by kernel_rfl)
            have hb3_ := hall 3 (by kernel_rfl)
            have hb4_ := hall 4 (by kernel_rfl)
            have hb5_ := hall 5 (by kernel_rfl)
            have hb6_ := hall 6 (by kernel_rfl)
            have hb8_ := hall 8 (by kernel_rfl)
            have hb9_ := hall 9 (by kernel_rfl)
            have hb10_ := hall 10 (by kernel_rfl)
            have hb11_ := hall 11 (by kernel_rfl)
            have hb12_ := hall 12 (by kernel_rfl)
            have hb13_ := hall 13 (by kernel_rfl)
            subst ha
            obtain rfl := Q_X4_ hb4_
            obtain rfl := Q_X9_ hb9_
            simp only [putSel, hb0_, hb1_, hb3_, hb4_, hb5_, hb6_, hb8_, hb9_, hb10_, hb11_, hb12_, hb13_, if_true, Act.put, List.setIfInBounds_toArray, List.set_cons_zero, List.set_cons_succ]
            have HO311 := Aside0.mk Q_HO311
            clear Q_HO311
            have HO315 := Aside0.mk Q_HO315
            clear Q_HO315
            clear Q_BK302
            have BK317 := Aside0.mk Q_BK317
            clear Q_BK317
            clear Q_HI305
            have HB := Aside0.mk Q_HB
            clear Q_HB
            have HO322 := Aside0.mk (Q_HO322 hb1_)
            clear Q_HO322
            have HA_HO322 := Aside0.mk (Q_HA_HO322 hb1_)
            clear Q_HA_HO322
            clear Q_HI305_e3
            have HO328 := Aside0.mk (Q_HO328 hb6_)
            clear Q_HO328
            have HA_HO328 := Aside0.mk (Q_HA_HO328 hb6_)
            clear Q_HA_HO328
            have HI305 := Aside0.mk (Q_HI305_e8 hb8_)
            clear Q_HI305_e8
            have BK302 := Aside0.mk (Q_BK302_e11 hb11_)
            clear Q_BK302_e11
            clear hall hb0_ hb1_ hb3_ hb4_ hb5_ hb6_ hb8_ hb9_ hb10_ hb11_ hb12_ hb13_
            obtain ⟨co38, eo38⟩ := HA_HO322.out
            clear HA_HO322
            subst eo38
            obtain ⟨co39, eo39⟩ := HA_HO328.out
            clear HA_HO328
            subst eo39
            try go_wp2
            refine bodyPost_ret (results_ctt rfl _ _ gb302 36 #[.int .i64 t306, .int .i64 t307, .bool t308, .slice Ao19 t309.length co19, .bool t312, .slice Ao20 t313.length co20] (0, 0) _ rfl (by (with_reducible repeat (first | refine blk_drewN ?_ _ | refine blk_drew ?_ | refine blk_alloc ?_ _)); exact BK302.out) Try.underlying36 rfl (by kernel_rfl)) rfl ?_
            exact ⟨_, _, by first | rfl | (simp [errW_none, errW_some] <;> rfl) | (simp [*, errW_none, errW_some] <;> rfl), by (with_reducible repeat (first | apply Kd.R_alloc | apply Kd.R_drewN | apply Kd.R_drew)); first | exact Kd.R_mono HO311.out (fun _ hk => hk.1) | exact (HO311).out, by (with_reducible repeat (first | apply Kd.R_alloc | apply Kd.R_drewN | apply Kd.R_drew)); first | exact Kd.R_mono HO315.out (fun _ hk => hk.1) | exact (HO315).out, by repeat (first | (with_reducible first | exact HB.out | apply below_alloc | apply pw_below_drewN | apply below_drew1 | refine below_set ?_ (IsS76.ge HI305.out) | refine below_set ?_ GE302.out | refine below_set ?_ GE317.out) | exact HB.out)⟩
          · rw [if_neg c11] at H
            exact absurd H (by simp)
        · rw [if_neg c10] at H
          exact absurd H (by simp)
      · rw [if_neg c8] at H
        exact absurd H (by simp)
    · rw [if_neg c7] at H
      exact absurd H (by simp)
  · rw [if_neg c5] at H
    have c5b0 : (t318 == 0) = false := beq_eq_false_iff_ne.mpr c5
    have c5b1 : (t318 != 0) = true := bne_iff_ne.mpr c5
    replace H := Option.bind_eq_some_iff.mp H
    obtain ⟨⟨t332, t333⟩, A400, H⟩ := H
    replace H : ((spec_l6Rd_pick.f k t303 t333 250).bind fun bt334 => (some (t306, t307, t308, t309, t312, t313, t332, bt334.1))) = some (r1, r2, r3, r4, r5, r6, r7, r8) := H
    have A40 := Aside0.mk A400
    clear A400
    replace H := Option.bind_eq_some_iff.mp H
    obtain ⟨⟨t334, t335⟩, A410, H⟩ := H
    replace H : (some (t306, t307, t308, t309, t312, t313, t332, t334)) = some (r1, r2, r3, r4, r5, r6, r7, r8) := H
    have A41 := Aside0.mk A410
    clear A410
    simp only [Option.some.injEq, Prod.mk.injEq] at H
    obtain ⟨rfl, rfl, rfl, rfl, rfl, rfl, rfl, rfl⟩ := H
    go_enter Try.func27, Try.ntmps27
    try go_wp2_with (first | ((with_reducible refine gate_dst (N := 2) rfl ?_); refine box_event ?hg (N := 2) ?hd (cs := #[.int .i64 0, .int .i64 0, .bool false, .slice none 0 0, .bool false, .slice none 0 0]) (t := 36) ?hr ?_; (case hd => rfl); (case hg => rfl); (case hr => first | (go_simp; done) | (go_simp; rfl)); intro gb302 hg w42 hbox hb; have n0_ := Aside0.mk (below_step (by repeat (first | (with_reducible first | exact HB.out | apply below_alloc | apply pw_below_drewN | apply below_drew1) | exact HB.out)) hb); have n1_ := Aside0.mk (hbox); have n2_ := Aside0.mk ((by rw [hg]; exact (below_size (by repeat (first | (with_reducible first | exact HB.out | apply below_alloc | apply pw_below_drewN | apply below_drew1) | exact HB.out))) : w.heap.size ≤ gb302)); have n3_ := Aside0.mk ((by rw [hg]; exact (below_size (by repeat (first | (with_reducible first | exact HB.out | apply below_alloc | apply pw_below_drewN | apply below_drew1) | exact HB.out))) : w.heap.size ≤ gb302)); clear HB; have HB := n0_; have BK302 := n1_; have GW302 := n2_; have GE302 := n3_; clear n0_ n1_ n2_ n3_; clear hb hbox hg) | ((with_reducible refine gate_callee (f := 30) rfl ?_); refine goesL_ (some 8) rfl rfl Try.func30 (by kernel_rfl) rfl #[.slice A0 l0.length c0] rfl (by (try simp only [List.map_toArray, List.map_cons, List.map_nil]); first | done | rfl | (simp only [List.length_drop, List.length_take]; rfl)) ?_; (with_reducible refine (spec_l6Open.calls _ _ l0 t303 t304 w _ ?side1 ?side2 ?side3 A2.out).mono ?_); (case side1 => repeat (first | (with_reducible first | exact HB.out | apply below_alloc | apply pw_below_drewN | apply below_drew1 | refine below_set ?_ GE302.out) | exact HB.out)); (case side2 => exact HR0.out); (case side3 => exact HC0.out); rintro e w43 ⟨g305, rfl, hi, hb, hb2⟩; refine ⟨_, rfl, ?_⟩; have n0_ := Aside0.mk (blk_below (g := gb302) (o := .cells #[.int .i64 0, .int .i64 0, .bool false, .slice none 0 0, .bool false, .slice none 0 0] 36 (0, 0)) (by (with_reducible repeat (first | refine blk_drewN ?_ _ | refine blk_drew ?_ | refine blk_alloc ?_ _)); exact BK302.out) hb2); have n1_ := Aside0.mk (hb); have n2_ := Aside0.mk (hi); have n3_ := Aside0.mk (IsS76.ne_blk hi (blk_below (g := gb302) (o := .cells #[.int .i64 0, .int .i64 0, .bool false, .slice none 0 0, .bool false, .slice none 0 0] 36 (0, 0)) (by (with_reducible repeat (first | refine blk_drewN ?_ _ | refine blk_drew ?_ | refine blk_alloc ?_ _)); exact BK302.out) hb2) (by decide)); have n4_ := Aside0.mk (Ne.symm (IsS76.ne_blk hi (blk_below (g := gb302) (o := .cells #[.int .i64 0, .int .i64 0, .bool false, .slice none 0 0, .bool false, .slice none 0 0] 36 (0, 0)) (by (with_reducible repeat (first | refine blk_drewN ?_ _ | refine blk_drew ?_ | refine blk_alloc ?_ _)); exact BK302.out) hb2) (by decide))); clear BK302; clear HB; have BK302 := n0_; have HB := n1_; have HI305 := n2_; have NB305_302 := n3_; have NB302_305 := n4_; clear n0_ n1_ n2_ n3_ n4_; (try clear hb); (try clear hb2); (try clear hk); (try clear hi)) | ((with_reducible refine gate_callee (f := 55) rfl ?_); refine goesL_ (some 10) rfl rfl Try.func55 (by kernel_rfl) rfl #[.pointer (some ⟨g305, 0, none⟩)] rfl (by (try simp only [List.map_toArray, List.map_cons, List.map_nil]); first | done | rfl | (simp only [List.length_drop, List.length_take]; rfl)) ?_; (with_reducible refine (spec_l91Record.calls k g305 t303 t304 t306 t307 t308 t309 t312 t313 t316 w _ ?side1 ?side2 A3.out).mono ?_); (case side1 => repeat (first | (with_reducible first | exact HI305.out | apply IsS76.alloc | apply IsS76.drewN | apply IsS76.drew | apply IsS76.set_1 | refine IsS76.far ?_ NB305_302.out _) | exact HI305.out)); (case side2 => repeat (first | (with_reducible first | exact HB.out | apply below_alloc | apply pw_below_drewN | apply below_drew1 | refine below_set ?_ (IsS76.ge HI305.out) | refine below_set ?_ GE302.out) | exact HB.out)); rintro e w44 ⟨v310, v314, rfl, ho0, ho1, hi, hb, hk⟩; refine ⟨_, rfl, ?_⟩; have n0_ := Aside0.mk (KeepBut.blk hk (g' := gb302) (o := .cells #[.int .i64 0, .int .i64 0, .bool false, .slice none 0 0, .bool false, .slice none 0 0] 36 (0, 0)) (by (with_reducible repeat (first | refine blk_drewN ?_ _ | refine blk_drew ?_ | refine blk_alloc ?_ _)); exact BK302.out) NB302_305.out (by simp)); have n1_ := Aside0.mk (Kd.R_lower ho0 (below_size (by repeat (first | (with_reducible first | exact HB.out | apply below_alloc | apply pw_below_drewN | apply below_drew1 | refine below_set ?_ (IsS76.ge HI305.out) | refine below_set ?_ GE302.out) | exact HB.out)))); have n2_ := Aside0.mk (Kd.R_lower ho1 (below_size (by repeat (first | (with_reducible first | exact HB.out | apply below_alloc | apply pw_below_drewN | apply below_drew1 | refine below_set ?_ (IsS76.ge HI305.out) | refine below_set ?_ GE302.out) | exact HB.out)))); have n3_ := Aside0.mk (hb); have n4_ := Aside0.mk (hi); clear BK302; clear HB; clear HI305; have BK302 := n0_; have HO311 := n1_; have HO315 := n2_; have HB := n3_; have HI305 := n4_; clear n0_ n1_ n2_ n3_ n4_; (try clear hb); (try clear hb2); (try clear hk); (try clear hi); (try clear ho0); (try clear ho1)) | ((with_reducible refine gate_dst (N := 6) rfl ?_); refine box_event ?hg (N := 6) ?hd (cs := #[.int .i64 0, .int .i64 0, .bool false, .slice none 0 0, .bool false, .slice none 0 0]) (t := 36) ?hr ?_; (case hd => rfl); (case hg => rfl); (case hr => first | (go_simp; done) | (go_simp; rfl)); intro gb317 hg w45 hbox hb; have n0_ := Aside0.mk (Kd.R_below (by (with_reducible repeat (first | apply Kd.R_alloc | apply Kd.R_drewN | apply Kd.R_drew)); exact HO311.out) hb); have n1_ := Aside0.mk (Kd.R_below (by (with_reducible repeat (first | apply Kd.R_alloc | apply Kd.R_drewN | apply Kd.R_drew)); exact HO315.out) hb); have n2_ := Aside0.mk (blk_below (g := gb302) (o := .cells #[.int .i64 0, .int .i64 0, .bool false, .slice none 0 0, .bool false, .slice none 0 0] 36 (0, 0)) (by (with_reducible repeat (first | refine blk_drewN ?_ _ | refine blk_drew ?_ | refine blk_alloc ?_ _)); exact BK302.out) hb); have n3_ := Aside0.mk (IsS76.below (by repeat (first | (with_reducible first | exact HI305.out | apply IsS76.alloc | apply IsS76.drewN | apply IsS76.drew | apply IsS76.set_1 | refine IsS76.far ?_ NB305_302.out _) | exact HI305.out)) hb); have n4_ := Aside0.mk (below_step (by repeat (first | (with_reducible first | exact HB.out | apply below_alloc | apply pw_below_drewN | apply below_drew1 | refine below_set ?_ (IsS76.ge HI305.out) | refine below_set ?_ GE302.out) | exact HB.out)) hb); have n5_ := Aside0.mk (hbox); have n6_ := Aside0.mk ((by rw [hg]; exact (below_size (by repeat (first | (with_reducible first | exact HB.out | apply below_alloc | apply pw_below_drewN | apply below_drew1 | refine below_set ?_ (IsS76.ge HI305.out) | refine below_set ?_ GE302.out) | exact HB.out))) : w.heap.size ≤ gb317)); have n7_ := Aside0.mk ((by rw [hg]; exact (below_size (by repeat (first | (with_reducible first | exact HB.out | apply below_alloc | apply pw_below_drewN | apply below_drew1 | refine below_set ?_ (IsS76.ge HI305.out) | refine below_set ?_ GE302.out) | exact HB.out))) : w.heap.size ≤ gb317)); have n8_ := Aside0.mk ((by rw [hg]; exact Nat.ne_of_lt (blk_lt (g := gb302) (o := .cells #[.int .i64 0, .int .i64 0, .bool false, .slice none 0 0, .bool false, .slice none 0 0] 36 (0, 0)) (by (with_reducible repeat (first | refine blk_drewN ?_ _ | refine blk_drew ?_ | refine blk_alloc ?_ _)); exact BK302.out)) : gb302 ≠ gb317)); have n9_ := Aside0.mk ((by rw [hg]; exact Nat.ne_of_gt (blk_lt (g := gb302) (o := .cells #[.int .i64 0, .int .i64 0, .bool false, .slice none 0 0, .bool false, .slice none 0 0] 36 (0, 0)) (by (with_reducible repeat (first | refine blk_drewN ?_ _ | refine blk_drew ?_ | refine blk_alloc ?_ _)); exact BK302.out)) : gb317 ≠ gb302)); have n10_ := Aside0.mk ((by rw [hg]; exact Nat.ne_of_lt (IsS76.lt (show IsS76 w _ g305 t303 t316 from by repeat (first | (with_reducible first | exact HI305.out | apply IsS76.alloc | apply IsS76.drewN | apply IsS76.drew | apply IsS76.set_1 | refine IsS76.far ?_ NB305_302.out _) | exact HI305.out))) : g305 ≠ gb317)); have n11_ := Aside0.mk ((by rw [hg]; exact Nat.ne_of_gt (IsS76.lt (show IsS76 w _ g305 t303 t316 from by repeat (first | (with_reducible first | exact HI305.out | apply IsS76.alloc | apply IsS76.drewN | apply IsS76.drew | apply IsS76.set_1 | refine IsS76.far ?_ NB305_302.out _) | exact HI305.out))) : gb317 ≠ g305)); clear HO311; clear HO315; clear BK302; clear HI305; clear HB; have HO311 := n0_; have HO315 := n1_; have BK302 := n2_; have HI305 := n3_; have HB := n4_; have BK317 := n5_; have GW317 := n6_; have GE317 := n7_; have NB302_317 := n8_; have NB317_302 := n9_; have NB305_317 := n10_; have NB317_305 := n11_; clear n0_ n1_ n2_ n3_ n4_ n5_ n6_ n7_ n8_ n9_ n10_ n11_; clear hb hbox hg; have hnb46 := NB317_302.out; have hnc46 := NB302_317.out; have hnb47 := NB317_305.out; have hnc47 := NB305_317.out; have hcz48_0 : w45.cell? ⟨gb317, 0, none⟩ = some (.int .i64 0) := (blk_cell BK317.out 0).trans rfl; have hcz48_1 : w45.cell? ⟨gb317, 1, none⟩ = some (.int .i64 0) := (blk_cell BK317.out 1).trans rfl; have hcz48_2 : w45.cell? ⟨gb317, 2, none⟩ = some (.bool false) := (blk_cell BK317.out 2).trans rfl; have hcz48_3 : w45.cell? ⟨gb317, 3, none⟩ = some (.slice none 0 0) := (blk_cell BK317.out 3).trans rfl; have hcz48_4 : w45.cell? ⟨gb317, 4, none⟩ = some (.bool false) := (blk_cell BK317.out 4).trans rfl; have hcz48_5 : w45.cell? ⟨gb317, 5, none⟩ = some (.slice none 0 0) := (blk_cell BK317.out 5).trans rfl; have hfz48_0 := blk_frozen BK317.out 0; have hfz48_1 := blk_frozen BK317.out 1; have hfz48_2 := blk_frozen BK317.out 2; have hfz48_3 := blk_frozen BK317.out 3; have hfz48_4 := blk_frozen BK317.out 4; have hfz48_5 := blk_frozen BK317.out 5; obtain ⟨Ao49, co49, eo49⟩ := Kd.R_slice HO311.out; subst eo49; obtain ⟨Ao50, co50, eo50⟩ := Kd.R_slice HO315.out; subst eo50) | ((with_reducible refine gate_callee (f := 31) rfl ?_); refine goesL_ (some 12) rfl rfl Try.func31 (by kernel_rfl) rfl #[.pointer (some ⟨g305, 0, none⟩), .int .i64 16] rfl (by (try simp only [List.map_toArray, List.map_cons, List.map_nil]); first | done | rfl | (simp only [List.length_drop, List.length_take]; rfl)) ?_; (with_reducible refine (spec_l6Rd_pick.calls k g305 t303 t316 16 t318 t319 w _ ?side1 ?side2 A4.out).mono ?_); (case side1 => repeat (first | (with_reducible first | exact HI305.out | apply IsS76.alloc | apply IsS76.drewN | apply IsS76.drew | apply IsS76.set_1 | refine IsS76.far ?_ NB305_302.out _ | refine IsS76.far ?_ NB305_317.out _) | exact HI305.out)); (case side2 => repeat (first | (with_reducible first | exact HB.out | apply below_alloc | apply pw_below_drewN | apply below_drew1 | refine below_set ?_ (IsS76.ge HI305.out) | refine below_set ?_ GE302.out | refine below_set ?_ GE317.out) | exact HB.out)); rintro e w51 ⟨rfl, hi, hb, hk⟩; refine ⟨_, rfl, ?_⟩; have n0_ := Aside0.mk (KeepBut.blk hk (g' := gb302) (o := .cells #[.int .i64 0, .int .i64 0, .bool false, .slice none 0 0, .bool false, .slice none 0 0] 36 (0, 0)) (by (with_reducible repeat (first | refine blk_drewN ?_ _ | refine blk_drew ?_ | refine blk_alloc ?_ _)); refine blk_far ?_ NB302_317.out _; (with_reducible repeat (first | refine blk_drewN ?_ _ | refine blk_drew ?_ | refine blk_alloc ?_ _)); refine blk_far ?_ NB302_317.out _; (with_reducible repeat (first | refine blk_drewN ?_ _ | refine blk_drew ?_ | refine blk_alloc ?_ _)); refine blk_far ?_ NB302_317.out _; (with_reducible repeat (first | refine blk_drewN ?_ _ | refine blk_drew ?_ | refine blk_alloc ?_ _)); refine blk_far ?_ NB302_317.out _; (with_reducible repeat (first | refine blk_drewN ?_ _ | refine blk_drew ?_ | refine blk_alloc ?_ _)); refine blk_far ?_ NB302_317.out _; (with_reducible repeat (first | refine blk_drewN ?_ _ | refine blk_drew ?_ | refine blk_alloc ?_ _)); refine blk_far ?_ NB302_317.out _; (with_reducible repeat (first | refine blk_drewN ?_ _ | refine blk_drew ?_ | refine blk_alloc ?_ _)); exact BK302.out) NB302_305.out (by simp)); have n1_ := Aside0.mk (Kd.R_mono (Kd.R_keep (IsS76.apart (show IsS76 w _ g305 t303 t316 from by repeat (first | (with_reducible first | exact HI305.out | apply IsS76.alloc | apply IsS76.drewN | apply IsS76.drew | apply IsS76.set_1 | refine IsS76.far ?_ NB305_302.out _ | refine IsS76.far ?_ NB305_317.out _) | exact HI305.out)) (by (with_reducible repeat (first | apply Kd.R_alloc | apply Kd.R_drewN | apply Kd.R_drew)); exact (Kd.R_mono (Kd.R_far (p := ⟨gb317, 5, none⟩) (Kd.R_far (p := ⟨gb317, 4, none⟩) (Kd.R_far (p := ⟨gb317, 3, none⟩) (Kd.R_far (p := ⟨gb317, 2, none⟩) (Kd.R_far (p := ⟨gb317, 1, none⟩) (Kd.R_far (p := ⟨gb317, 0, none⟩) (Kd.R_types HO311.out BK317.out (by decide)) (fun _ hk => hk.2) (.int .i64 t306)) (fun _ hk => hk.2) (.int .i64 t307)) (fun _ hk => hk.2) (.bool t308)) (fun _ hk => hk.2) (.slice Ao49 t309.length co49)) (fun _ hk => hk.2) (.bool t312)) (fun _ hk => hk.2) (.slice Ao50 t313.length co50)) (fun _ h_ => h_.1))) (by decide)) hk (fun _ h => h.2)) (fun _ h => h.1)); have n2_ := Aside0.mk (Kd.R_mono (Kd.R_keep (IsS76.apart (show IsS76 w _ g305 t303 t316 from by repeat (first | (with_reducible first | exact HI305.out | apply IsS76.alloc | apply IsS76.drewN | apply IsS76.drew | apply IsS76.set_1 | refine IsS76.far ?_ NB305_302.out _ | refine IsS76.far ?_ NB305_317.out _) | exact HI305.out)) (by (with_reducible repeat (first | apply Kd.R_alloc | apply Kd.R_drewN | apply Kd.R_drew)); exact (Kd.R_mono (Kd.R_far (p := ⟨gb317, 5, none⟩) (Kd.R_far (p := ⟨gb317, 4, none⟩) (Kd.R_far (p := ⟨gb317, 3, none⟩) (Kd.R_far (p := ⟨gb317, 2, none⟩) (Kd.R_far (p := ⟨gb317, 1, none⟩) (Kd.R_far (p := ⟨gb317, 0, none⟩) (Kd.R_types HO315.out BK317.out (by decide)) (fun _ hk => hk.2) (.int .i64 t306)) (fun _ hk => hk.2) (.int .i64 t307)) (fun _ hk => hk.2) (.bool t308)) (fun _ hk => hk.2) (.slice Ao49 t309.length co49)) (fun _ hk => hk.2) (.bool t312)) (fun _ hk => hk.2) (.slice Ao50 t313.length co50)) (fun _ h_ => h_.1))) (by decide)) hk (fun _ h => h.2)) (fun _ h => h.1)); have n3_ := Aside0.mk (KeepBut.blk hk (g' := gb317) (o := .cells #[.int .i64 t306, .int .i64 t307, .bool t308, .slice Ao49 t309.length co49, .bool t312, .slice Ao50 t313.length co50] 36 (0, 0)) (by (with_reducible repeat (first | refine blk_drewN ?_ _ | refine blk_drew ?_ | refine blk_alloc ?_ _)); refine blk_put (cs := #[.int .i64 t306, .int .i64 t307, .bool t308, .slice Ao49 t309.length co49, .bool t312, .slice none 0 0]) ?_ 5 _ rfl; (with_reducible repeat (first | refine blk_drewN ?_ _ | refine blk_drew ?_ | refine blk_alloc ?_ _)); refine blk_put (cs := #[.int .i64 t306, .int .i64 t307, .bool t308, .slice Ao49 t309.length co49, .bool false, .slice none 0 0]) ?_ 4 _ rfl; (with_reducible repeat (first | refine blk_drewN ?_ _ | refine blk_drew ?_ | refine blk_alloc ?_ _)); refine blk_put (cs := #[.int .i64 t306, .int .i64 t307, .bool t308, .slice none 0 0, .bool false, .slice none 0 0]) ?_ 3 _ rfl; (with_reducible repeat (first | refine blk_drewN ?_ _ | refine blk_drew ?_ | refine blk_alloc ?_ _)); refine blk_put (cs := #[.int .i64 t306, .int .i64 t307, .bool false, .slice none 0 0, .bool false, .slice none 0 0]) ?_ 2 _ rfl; (with_reducible repeat (first | refine blk_drewN ?_ _ | refine blk_drew ?_ | refine blk_alloc ?_ _)); refine blk_put (cs := #[.int .i64 t306, .int .i64 0, .bool false, .slice none 0 0, .bool false, .slice none 0 0]) ?_ 1 _ rfl; (with_reducible repeat (first | refine blk_drewN ?_ _ | refine blk_drew ?_ | refine blk_alloc ?_ _)); refine blk_put (cs := #[.int .i64 0, .int .i64 0, .bool false, .slice none 0 0, .bool false, .slice none 0 0]) ?_ 0 _ rfl; (with_reducible repeat (first | refine blk_drewN ?_ _ | refine blk_drew ?_ | refine blk_alloc ?_ _)); exact BK317.out) NB317_305.out (by simp)); have n4_ := Aside0.mk (hb); have n5_ := Aside0.mk (hi); clear BK302; clear HO311; clear HO315; clear BK317; clear HB; clear HI305; have BK302 := n0_; have HO311 := n1_; have HO315 := n2_; have BK317 := n3_; have HB := n4_; have HI305 := n5_; clear n0_ n1_ n2_ n3_ n4_ n5_; (try clear hb); (try clear hb2); (try clear hk); (try clear hi)))
    have n0_ := Aside0.mk (Kd.R_drew HO311.out)
    have n1_ := Aside0.mk (Kd.R_drew HO315.out)
    have n2_ := Aside0.mk (blk_drew BK302.out)
    have n3_ := Aside0.mk (blk_drew BK317.out)
    have n4_ := Aside0.mk (IsS76.drew HI305.out)
    have n5_ := Aside0.mk (below_drew1 HB.out)
    clear HO311
    clear HO315
    clear BK302
    clear BK317
    clear HI305
    clear HB
    have HO311 := n0_
    have HO315 := n1_
    have BK302 := n2_
    have BK317 := n3_
    have HI305 := n4_
    have HB := n5_
    clear n0_ n1_ n2_ n3_ n4_ n5_
    refine start_ (n := 8) (S := fun w' => w'.cell? ⟨gb317, 0, none⟩ = some (.int .i64 t306) ∧ w'.cell? ⟨gb317, 1, none⟩ = some (.int .i64 t307) ∧ w'.cell? ⟨gb317, 2, none⟩ = some (.bool t308) ∧ w'.cell? ⟨gb317, 3, none⟩ = some (.slice Ao49 t309.length co49) ∧ w'.cell? ⟨gb317, 4, none⟩ = some (.bool t312) ∧ w'.cell? ⟨gb317, 5, none⟩ = some (.slice Ao50 t313.length co50)) (ds := []) #[false, false, false, false, false, false, false, false] (by kernel_rfl) rfl rfl ⟨(blk_cell BK317.out 0).trans rfl, (blk_cell BK317.out 1).trans rfl, (blk_cell BK317.out 2).trans rfl, (blk_cell BK317.out 3).trans rfl, (blk_cell BK317.out 4).trans rfl, (blk_cell BK317.out 5).trans rfl⟩ (fun hHeld => ?_); refine with_tabW spec_DrawRecordBytes.tab5 spec_DrawRecordBytes.bits5 (fun HT_ HW_ => ?_)
    generalize w51.drew = w52 at HO311 HO315 BK302 BK317 HI305 HB hHeld ⊢
    refine pure_ (i := 1) (N := some 26) (v := ?_) (a' := ?_) #[false, true, false, false, false, false, false, false] rfl rfl (any_of HT_.out (by kernel_rfl)) (fun _ _ _ h => h) (Or.inl ⟨by rfl, ?_⟩) ?_ ?_
    rotate_left
    · intro w'
      go_simp
      with_reducible rfl
    rotate_left
    · simp only [Act.put, List.setIfInBounds_toArray, List.set_cons_zero, List.set_cons_succ, i64_w, i32_w]
      rfl
    refine pure_ (i := 3) (N := some 28) (v := ?_) (a' := ?_) #[false, true, false, true, false, false, false, false] rfl rfl (any_of HT_.out (by kernel_rfl)) (fun _ _ _ h => h) (Or.inl ⟨by rfl, ?_⟩) ?_ ?_
    rotate_left
    · intro w'
      go_simp
      with_reducible rfl
    rotate_left
    · simp only [Act.put, List.setIfInBounds_toArray, List.set_cons_zero, List.set_cons_succ, i64_w, i32_w]
      rfl
    refine take_ (i := 0) (N := some 25) (v := ?_) (a' := ?_) #[true, true, false, true, false, false, false, false] rfl rfl (take_ofW HT_.out HW_.out (by kernel_rfl)) (fun _ _ _ h => h) (Or.inl ⟨by rfl, ?_⟩) hHeld ?_ ?_
    rotate_left
    · rintro w' ⟨s0, s1, s2, s3, s4, s5⟩
      go_simp
      with_reducible rfl
    rotate_left
    · simp only [Act.put, List.setIfInBounds_toArray, List.set_cons_zero, List.set_cons_succ, i64_w, i32_w]
      rfl
    refine one_ (i := 2) (N := some 27) #[true, true, true, true, false, false, false, false] rfl rfl (one_of HT_.out (by kernel_rfl)) (by decide) (fun K hK => ?_)
    refine goes_ Try.func31 (by kernel_rfl) rfl #[.pointer (some ⟨g305, 0, none⟩), .int .i64 60] (by rfl) rfl rfl (by (try simp only [List.map_toArray, List.map_cons, List.map_nil]); first | done | rfl | (simp only [List.length_drop, List.length_take]; rfl)) ?_
    with_reducible refine (spec_l6Rd_pick.calls k g305 t303 t319 60 t332 t333 w _ ?side1 ?side2 A40.out).mono ?_
    (case side1 => repeat (first | (with_reducible first | exact HI305.out | apply IsS76.alloc | apply IsS76.drewN | apply IsS76.drew | apply IsS76.set_1 | refine IsS76.far ?_ NB305_302.out _ | refine IsS76.far ?_ NB305_317.out _) | exact HI305.out))
    (case side2 => repeat (first | (with_reducible first | exact HB.out | apply below_alloc | apply pw_below_drewN | apply below_drew1 | refine below_set ?_ (IsS76.ge HI305.out) | refine below_set ?_ GE302.out | refine below_set ?_ GE317.out) | exact HB.out))
    rintro e w53 ⟨rfl, hi, hb, hk⟩
    refine ⟨_, rfl, ?_⟩
    have n0_ := Aside0.mk (KeepBut.blk hk (g' := gb302) (o := .cells #[.int .i64 0, .int .i64 0, .bool false, .slice none 0 0, .bool false, .slice none 0 0] 36 (0, 0)) (by (with_reducible repeat (first | refine blk_drewN ?_ _ | refine blk_drew ?_ | refine blk_alloc ?_ _)); exact BK302.out) NB302_305.out (by simp))
    have n1_ := Aside0.mk (Kd.R_mono (Kd.R_keep (IsS76.apart (show IsS76 w _ g305 t303 t319 from by repeat (first | (with_reducible first | exact HI305.out | apply IsS76.alloc | apply IsS76.drewN | apply IsS76.drew | apply IsS76.set_1 | refine IsS76.far ?_ NB305_302.out _ | refine IsS76.far ?_ NB305_317.out _) | exact HI305.out)) (by (with_reducible repeat (first | apply Kd.R_alloc | apply Kd.R_drewN | apply Kd.R_drew)); exact HO311.out) (by decide)) hk (fun _ h => h.2)) (fun _ h => h.1))
    have n2_ := Aside0.mk (Kd.R_mono (Kd.R_keep (IsS76.apart (show IsS76 w _ g305 t303 t319 from by repeat (first | (with_reducible first | exact HI305.out | apply IsS76.alloc | apply IsS76.drewN | apply IsS76.drew | apply IsS76.set_1 | refine IsS76.far ?_ NB305_302.out _ | refine IsS76.far ?_ NB305_317.out _) | exact HI305.out)) (by (with_reducible repeat (first | apply Kd.R_alloc | apply Kd.R_drewN | apply Kd.R_drew)); exact HO315.out) (by decide)) hk (fun _ h => h.2)) (fun _ h => h.1))
    have n3_ := Aside0.mk (KeepBut.blk hk (g' := gb317) (o := .cells #[.int .i64 t306, .int .i64 t307, .bool t308, .slice Ao49 t309.length co49, .bool t312, .slice Ao50 t313.length co50] 36 (0, 0)) (by (with_reducible repeat (first | refine blk_drewN ?_ _ | refine blk_drew ?_ | refine blk_alloc ?_ _)); exact BK317.out) NB317_305.out (by simp))
    have n4_ := Aside0.mk (hb)
    have n5_ := Aside0.mk (hi)
    clear BK302
    clear HO311
    clear HO315
    clear BK317
    clear HB
    clear HI305
    have BK302 := n0_
    have HO311 := n1_
    have HO315 := n2_
    have BK317 := n3_
    have HB := n4_
    have HI305 := n5_
    clear n0_ n1_ n2_ n3_ n4_ n5_
    (try clear hb)
    (try clear hb2)
    (try clear hk)
    (try clear hi)
    refine hK.out _ _ ⟨(blk_cell BK317.out 0).trans rfl, (blk_cell BK317.out 1).trans rfl, (blk_cell BK317.out 2).trans rfl, (blk_cell BK317.out 3).trans rfl, (blk_cell BK317.out 4).trans rfl, (blk_cell BK317.out 5).trans rfl⟩ (fun hHeld => ?_)
    clear hK K
    refine norm_ (a' := ?_) ?_ ?_
    rotate_left
    · show Act.put _ (some 27) _ = _
      simp only [Act.put, List.setIfInBounds_toArray, List.set_cons_zero, List.set_cons_succ, i64_w, i32_w]
      rfl
    refine one_ (i := 4) (N := some 29) #[true, true, true, true, true, false, false, false] rfl rfl (one_of HT_.out (by kernel_rfl)) (by decide) (fun K hK => ?_)
    refine goes_ Try.func31 (by kernel_rfl) rfl #[.pointer (some ⟨g305, 0, none⟩), .int .i64 250] (by rfl) rfl rfl (by (try simp only [List.map_toArray, List.map_cons, List.map_nil]); first | done | rfl | (simp only [List.length_drop, List.length_take]; rfl)) ?_
    with_reducible refine (spec_l6Rd_pick.calls k g305 t303 t333 250 t334 t335 w _ ?side1 ?side2 A41.out).mono ?_
    (case side1 => repeat (first | (with_reducible first | exact HI305.out | apply IsS76.alloc | apply IsS76.drewN | apply IsS76.drew | apply IsS76.set_1 | refine IsS76.far ?_ NB305_302.out _ | refine IsS76.far ?_ NB305_317.out _) | exact HI305.out))
    (case side2 => repeat (first | (with_reducible first | exact HB.out | apply below_alloc | apply pw_below_drewN | apply below_drew1 | refine below_set ?_ (IsS76.ge HI305.out) | refine below_set ?_ GE302.out | refine below_set ?_ GE317.out) | exact HB.out))
    rintro e w54 ⟨rfl, hi, hb, hk⟩
    refine ⟨_, rfl, ?_⟩
    have n0_ := Aside0.mk (KeepBut.blk hk (g' := gb302) (o := .cells #[.int .i64 0, .int .i64 0, .bool false, .slice none 0 0, .bool false, .slice none 0 0] 36 (0, 0)) (by (with_reducible repeat (first | refine blk_drewN ?_ _ | refine blk_drew ?_ | refine blk_alloc ?_ _)); exact BK302.out) NB302_305.out (by simp))
    have n1_ := Aside0.mk (Kd.R_mono (Kd.R_keep (IsS76.apart (show IsS76 w _ g305 t303 t333 from by repeat (first | (with_reducible first | exact HI305.out | apply IsS76.alloc | apply IsS76.drewN | apply IsS76.drew | apply IsS76.set_1 | refine IsS76.far ?_ NB305_302.out _ | refine IsS76.far ?_ NB305_317.out _) | exact HI305.out)) (by (with_reducible repeat (first | apply Kd.R_alloc | apply Kd.R_drewN | apply Kd.R_drew)); exact HO311.out) (by decide)) hk (fun _ h => h.2)) (fun _ h => h.1))
    have n2_ := Aside0.mk (Kd.R_mono (Kd.R_keep (IsS76.apart (show IsS76 w _ g305 t303 t333 from by repeat (first | (with_reducible first | exact HI305.out | apply IsS76.alloc | apply IsS76.drewN | apply IsS76.drew | apply IsS76.set_1 | refine IsS76.far ?_ NB305_302.out _ | refine IsS76.far ?_ NB305_317.out _) | exact HI305.out)) (by (with_reducible repeat (first | apply Kd.R_alloc | apply Kd.R_drewN | apply Kd.R_drew)); exact HO315.out) (by decide)) hk (fun _ h => h.2)) (fun _ h => h.1))
    have n3_ := Aside0.mk (KeepBut.blk hk (g' := gb317) (o := .cells #[.int .i64 t306, .int .i64 t307, .bool t308, .slice Ao49 t309.length co49, .bool t312, .slice Ao50 t313.length co50] 36 (0, 0)) (by (with_reducible repeat (first | refine blk_drewN ?_ _ | refine blk_drew ?_ | refine blk_alloc ?_ _)); exact BK317.out) NB317_305.out (by simp))
    have n4_ := Aside0.mk (hb)
    have n5_ := Aside0.mk (hi)
    clear BK302
    clear HO311
    clear HO315
    clear BK317
    clear HB
    clear HI305
    have BK302 := n0_
    have HO311 := n1_
    have HO315 := n2_
    have BK317 := n3_
    have HB := n4_
    have HI305 := n5_
    clear n0_ n1_ n2_ n3_ n4_ n5_
    (try clear hb)
    (try clear hb2)
    (try clear hk)
    (try clear hi)
    refine hK.out _ _ ⟨(blk_cell BK317.out 0).trans rfl, (blk_cell BK317.out 1).trans rfl, (blk_cell BK317.out 2).trans rfl, (blk_cell BK317.out 3).trans rfl, (blk_cell BK317.out 4).trans rfl, (blk_cell BK317.out 5).trans rfl⟩ (fun hHeld => ?_)
    clear hK K
    refine norm_ (a' := ?_) ?_ ?_
    rotate_left
    · show Act.put _ (some 29) _ = _
      simp only [Act.put, List.setIfInBounds_toArray, List.set_cons_zero, List.set_cons_succ, i64_w, i32_w]
      rfl
    refine one_ (i := 5) (N := none) #[true, true, true, true, true, true, false, false] rfl rfl (one_of HT_.out (by kernel_rfl)) (by decide) (fun K hK => ?_)
    have hs55 : w54.cell? ⟨gb302, 0, none⟩ = some (.int .i64 0) := (blk_cell BK302.out 0).trans rfl
    have hfs55 := blk_frozen BK302.out 0
    have hns55_1 := NB317_302.out
    have hms55_1 := NB302_317.out
    have hs56 : w54.cell? ⟨gb302, 1, none⟩ = some (.int .i64 0) := (blk_cell BK302.out 1).trans rfl
    have hfs56 := blk_frozen BK302.out 1
    have hns56_1 := NB317_302.out
    have hms56_1 := NB302_317.out
    have hs57 : w54.cell? ⟨gb302, 2, none⟩ = some (.bool false) := (blk_cell BK302.out 2).trans rfl
    have hfs57 := blk_frozen BK302.out 2
    have hns57_1 := NB317_302.out
    have hms57_1 := NB302_317.out
    have hs58 : w54.cell? ⟨gb302, 3, none⟩ = some (.slice none 0 0) := (blk_cell BK302.out 3).trans rfl
    have hfs58 := blk_frozen BK302.out 3
    have hns58_1 := NB317_302.out
    have hms58_1 := NB302_317.out
    have hs59 : w54.cell? ⟨gb302, 4, none⟩ = some (.bool false) := (blk_cell BK302.out 4).trans rfl
    have hfs59 := blk_frozen BK302.out 4
    have hns59_1 := NB317_302.out
    have hms59_1 := NB302_317.out
    have hs60 : w54.cell? ⟨gb302, 5, none⟩ = some (.slice none 0 0) := (blk_cell BK302.out 5).trans rfl
    have hfs60 := blk_frozen BK302.out 5
    have hns60_1 := NB317_302.out
    have hms60_1 := NB302_317.out
    refine skip_ (w1 := ?_) (by rfl) rfl ?_ ?_
    rotate_left
    · go_simp
      rfl
    refine hK.out _ _ ⟨((cell_far (p := ⟨gb302, _, none⟩) NB317_302.out _).trans (((cell_far (p := ⟨gb302, _, none⟩) NB317_302.out _).trans (((cell_far (p := ⟨gb302, _, none⟩) NB317_302.out _).trans (((cell_far (p := ⟨gb302, _, none⟩) NB317_302.out _).trans (((cell_far (p := ⟨gb302, _, none⟩) NB317_302.out _).trans (((cell_far (p := ⟨gb302, _, none⟩) NB317_302.out _).trans (hHeld.1)))))))))))), ((cell_far (p := ⟨gb302, _, none⟩) NB317_302.out _).trans (((cell_far (p := ⟨gb302, _, none⟩) NB317_302.out _).trans (((cell_far (p := ⟨gb302, _, none⟩) NB317_302.out _).trans (((cell_far (p := ⟨gb302, _, none⟩) NB317_302.out _).trans (((cell_far (p := ⟨gb302, _, none⟩) NB317_302.out _).trans (((cell_far (p := ⟨gb302, _, none⟩) NB317_302.out _).trans (hHeld.2.1)))))))))))), ((cell_far (p := ⟨gb302, _, none⟩) NB317_302.out _).trans (((cell_far (p := ⟨gb302, _, none⟩) NB317_302.out _).trans (((cell_far (p := ⟨gb302, _, none⟩) NB317_302.out _).trans (((cell_far (p := ⟨gb302, _, none⟩) NB317_302.out _).trans (((cell_far (p := ⟨gb302, _, none⟩) NB317_302.out _).trans (((cell_far (p := ⟨gb302, _, none⟩) NB317_302.out _).trans (hHeld.2.2.1)))))))))))), ((cell_far (p := ⟨gb302, _, none⟩) NB317_302.out _).trans (((cell_far (p := ⟨gb302, _, none⟩) NB317_302.out _).trans (((cell_far (p := ⟨gb302, _, none⟩) NB317_302.out _).trans (((cell_far (p := ⟨gb302, _, none⟩) NB317_302.out _).trans (((cell_far (p := ⟨gb302, _, none⟩) NB317_302.out _).trans (((cell_far (p := ⟨gb302, _, none⟩) NB317_302.out _).trans (hHeld.2.2.2.1)))))))))))), ((cell_far (p := ⟨gb302, _, none⟩) NB317_302.out _).trans (((cell_far (p := ⟨gb302, _, none⟩) NB317_302.out _).trans (((cell_far (p := ⟨gb302, _, none⟩) NB317_302.out _).trans (((cell_far (p := ⟨gb302, _, none⟩) NB317_302.out _).trans (((cell_far (p := ⟨gb302, _, none⟩) NB317_302.out _).trans (((cell_far (p := ⟨gb302, _, none⟩) NB317_302.out _).trans (hHeld.2.2.2.2.1)))))))))))), ((cell_far (p := ⟨gb302, _, none⟩) NB317_302.out _).trans (((cell_far (p := ⟨gb302, _, none⟩) NB317_302.out _).trans (((cell_far (p := ⟨gb302, _, none⟩) NB317_302.out _).trans (((cell_far (p := ⟨gb302, _, none⟩) NB317_302.out _).trans (((cell_far (p := ⟨gb302, _, none⟩) NB317_302.out _).trans (((cell_far (p := ⟨gb302, _, none⟩) NB317_302.out _).trans (hHeld.2.2.2.2.2))))))))))))⟩ (fun hHeld => ?_)
    clear hK K
    refine pure_ (i := 6) (N := some 3) (v := ?_) (a' := ?_) #[true, true, true, true, true, true, true, false] rfl rfl (any_of HT_.out (by kernel_rfl)) (fun _ _ _ h => h) (Or.inl ⟨by rfl, ?_⟩) ?_ ?_
    rotate_left
    · intro w'
      go_simp
      with_reducible rfl
    rotate_left
    · simp only [Act.put, List.setIfInBounds_toArray, List.set_cons_zero, List.set_cons_succ, i64_w, i32_w]
      rfl
    refine pure_ (i := 7) (N := some 4) (v := ?_) (a' := ?_) #[true, true, true, true, true, true, true, true] rfl rfl (any_of HT_.out (by kernel_rfl)) (fun _ _ _ h => h) (Or.inl ⟨by rfl, ?_⟩) ?_ ?_
    rotate_left
    · intro w'
      go_simp
      with_reducible rfl
    rotate_left
    · simp only [Act.put, List.setIfInBounds_toArray, List.set_cons_zero, List.set_cons_succ, i64_w, i32_w]
      rfl
    refine done_ (done_of HT_.out (by kernel_rfl)) ?_
    try go_wp2
    refine bodyPost_ret (results_ctt rfl _ _ gb302 36 #[.int .i64 t306, .int .i64 t307, .bool t308, .slice Ao49 t309.length co49, .bool t312, .slice Ao50 t313.length co50] (0, 0) _ rfl (by (with_reducible repeat (first | refine blk_drewN ?_ _ | refine blk_drew ?_ | refine blk_alloc ?_ _)); refine blk_put (cs := #[.int .i64 t306, .int .i64 t307, .bool t308, .slice Ao49 t309.length co49, .bool t312, .slice none 0 0]) ?_ 5 _ rfl; (with_reducible repeat (first | refine blk_drewN ?_ _ | refine blk_drew ?_ | refine blk_alloc ?_ _)); refine blk_put (cs := #[.int .i64 t306, .int .i64 t307, .bool t308, .slice Ao49 t309.length co49, .bool false, .slice none 0 0]) ?_ 4 _ rfl; (with_reducible repeat (first | refine blk_drewN ?_ _ | refine blk_drew ?_ | refine blk_alloc ?_ _)); refine blk_put (cs := #[.int .i64 t306, .int .i64 t307, .bool t308, .slice none 0 0, .bool false, .slice none 0 0]) ?_ 3 _ rfl; (with_reducible repeat (first | refine blk_drewN ?_ _ | refine blk_drew ?_ | refine blk_alloc ?_ _)); refine blk_put (cs := #[.int .i64 t306, .int .i64 t307, .bool false, .slice none 0 0, .bool false, .slice none 0 0]) ?_ 2 _ rfl; (with_reducible repeat (first | refine blk_drewN ?_ _ | refine blk_drew ?_ | refine blk_alloc ?_ _)); refine blk_put (cs := #[.int .i64 t306, .int .i64 0, .bool false, .slice none 0 0, .bool false, .slice none 0 0]) ?_ 1 _ rfl; (with_reducible repeat (first | refine blk_drewN ?_ _ | refine blk_drew ?_ | refine blk_alloc ?_ _)); refine blk_put (cs := #[.int .i64 0, .int .i64 0, .bool false, .slice none 0 0, .bool false, .slice none 0 0]) ?_ 0 _ rfl; (with_reducible repeat (first | refine blk_drewN ?_ _ | refine blk_drew ?_ | refine blk_alloc ?_ _)); exact BK302.out) Try.underlying36 rfl (by kernel_rfl)) rfl ?_
    exact ⟨_, _, by first | rfl | (simp [errW_none, errW_some] <;> rfl) | (simp [*, errW_none, errW_some] <;> rfl), by (with_reducible repeat (first | apply Kd.R_alloc | apply Kd.R_drewN | apply Kd.R_drew)); exact Kd.R_mono (Kd.R_far (p := ⟨gb302, 5, none⟩) (Kd.R_far (p := ⟨gb302, 4, none⟩) (Kd.R_far (p := ⟨gb302, 3, none⟩) (Kd.R_far (p := ⟨gb302, 2, none⟩) (Kd.R_far (p := ⟨gb302, 1, none⟩) (Kd.R_far (p := ⟨gb302, 0, none⟩) (Kd.R_types HO311.out BK302.out (by decide)) (fun _ hk => hk.2) (.int .i64 t306)) (fun _ hk => hk.2) (.int .i64 t307)) (fun _ hk => hk.2) (.bool t308)) (fun _ hk => hk.2) (.slice Ao49 t309.length co49)) (fun _ hk => hk.2) (.bool t312)) (fun _ hk => hk.2) (.slice Ao50 t313.length co50)) (fun _ hk => hk.1), by (with_reducible repeat (first | apply Kd.R_alloc | apply Kd.R_drewN | apply Kd.R_drew)); exact Kd.R_mono (Kd.R_far (p := ⟨gb302, 5, none⟩) (Kd.R_far (p := ⟨gb302, 4, none⟩) (Kd.R_far (p := ⟨gb302, 3, none⟩) (Kd.R_far (p := ⟨gb302, 2, none⟩) (Kd.R_far (p := ⟨gb302, 1, none⟩) (Kd.R_far (p := ⟨gb302, 0, none⟩) (Kd.R_types HO315.out BK302.out (by decide)) (fun _ hk => hk.2) (.int .i64 t306)) (fun _ hk => hk.2) (.int .i64 t307)) (fun _ hk => hk.2) (.bool t308)) (fun _ hk => hk.2) (.slice Ao49 t309.length co49)) (fun _ hk => hk.2) (.bool t312)) (fun _ hk => hk.2) (.slice Ao50 t313.length co50)) (fun _ hk => hk.1), by repeat (first | (with_reducible first | exact HB.out | apply below_alloc | apply pw_below_drewN | apply below_drew1 | refine below_set ?_ (IsS76.ge HI305.out) | refine below_set ?_ GE302.out | refine below_set ?_ GE317.out) | exact HB.out)⟩

end Go.Proofs.Ytfdfbpaibdgidaa.QFnRecordLength
