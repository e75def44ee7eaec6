-- Written by this session's program wip/ownprint.py.
import Derived.Test.YtdgpkjjclngamaaQFnRecordShiftx0
import Derived.Test.YtdgpkjjclngamaaQFnRecordShiftx2
import Derived.Test.YtdgpkjjclngamaaQFnRecordShiftx3
namespace Go.Proofs.Ytdgpkjjclngamaa.QFnRecordShift
open Go.RowKit Go.Proofs.YtdgpkjjclngamaaW.PrintWords Go.Proofs.YtdgpkjjclngamaaW.PrintLast Go.Proofs.YtdgpkjjclngamaaW.PrintMore
attribute [local go_sem] max2_int min2_int max_two min_two max_three min_three max_four min_four   -- for this text's walks alone
set_option linter.unusedVariables false
set_option linter.unusedSimpArgs false

/-! ### spec_DrawRecordBytes: function 51 -/
def spec_DrawRecordBytes.f (k : Nat) (l0 : List Int) : Option (Int × Int × Bool × List Int × Bool × List Int × Int × Int) := (spec_l6Open.f l0).bind fun bt226 => ((spec_l91Record.f k bt226.1 bt226.2).bind fun bt229 => ((spec_l6Rd_pick.f k bt226.1 bt229.2.2.2.2.2.2 16).bind fun bt241 => (if bt241.1 = 0 then ((some (([(-1), 99999, 100000] : List Int) : List Int)).bind fun y243 => ((spec_l6Rd_pick.f k bt226.1 bt241.2 3).bind fun bt246 => (if 0 ≤ bt246.1 then (if bt246.1 < (y243.length : Int) then ((some (([(-1), 99999, 100000] : List Int) : List Int)).bind fun y249 => ((spec_l6Rd_pick.f k bt226.1 bt246.2 3).bind fun bt252 => (if 0 ≤ bt252.1 then (if bt252.1 < (y249.length : Int) then (some (bt229.1, bt229.2.1, bt229.2.2.1, bt229.2.2.2.1, bt229.2.2.2.2.1, bt229.2.2.2.2.2.1, rd y243 bt246.1, rd y249 bt252.1)) else (none)) else (none)))) else (none)) else (none)))) else ((spec_l6Rd_pick.f k bt226.1 bt241.2 60).bind fun bt255 => ((spec_l6Rd_pick.f k bt226.1 bt255.2 250).bind fun bt257 => (some (bt229.1, bt229.2.1, bt229.2.2.1, bt229.2.2.2.1, bt229.2.2.2.2.1, bt229.2.2.2.2.2.1, bt255.1, bt257.1)))))))
theorem spec_DrawRecordBytes.mono : ∀ a0 k, LeO (spec_DrawRecordBytes.f k a0) (spec_DrawRecordBytes.f (k + 1) a0) := by
  intro a0 k
  unfold spec_DrawRecordBytes.f
  repeat' first
      | (with_reducible exact spec_l6Rd_pick.mono _ _ _ _)
      | (with_reducible exact spec_l91Record.mono _ _ _)
      | (with_reducible exact LeO.refl _)
      | (with_reducible exact LeO.none _)
      | (with_reducible refine LeO.ite ?_ ?_)
      | (with_reducible refine LeO.bind ?_ (fun _ => ?_))
      | exact spec_l6Rd_pick.mono _ _ _ _
      | exact spec_l91Record.mono _ _ _
      | exact LeO.none _
      | refine LeO.ite ?_ ?_
      | refine LeO.bind ?_ (fun _ => ?_)
def spec_DrawRecordBytes.T4 : Bool × List (List Nat × List Nat) := (true, [([], []), ([], []), ([], []), ([2], [2]), ([1, 3], [1, 3]), ([4], [4]), ([], []), ([], []), ([7, 3], [7]), ([6, 8], [6, 8]), ([9], [9]), ([0, 8, 0], [0]), ([5, 11, 0, 1, 2, 3, 4, 5, 11], [5]), ([10, 12, 0, 1, 2, 3, 4, 5, 6, 7, 8, 9, 10, 11, 12], [10])])
def spec_DrawRecordBytes.B4 : List Nat := [0, 0, 0, 4, 14, 30, 0, 0, 140, 460, 972, 397, 2495, 8191]
theorem spec_DrawRecordBytes.tab4 : rtab .any (opsOf Try.f51 4) = spec_DrawRecordBytes.T4 := by kernel_rfl
theorem spec_DrawRecordBytes.bits4 : waitsOk spec_DrawRecordBytes.T4.2 spec_DrawRecordBytes.B4 = true := by kernel_rfl
def spec_DrawRecordBytes.T5 : Bool × List (List Nat × List Nat) := (true, [([], []), ([], []), ([1], [1]), ([], []), ([3, 2], [3]), ([0, 4, 0], [0]), ([2, 5, 0, 1, 2, 5], [2]), ([4, 6, 0, 1, 2, 3, 4, 5, 6], [4])])
def spec_DrawRecordBytes.B5 : List Nat := [0, 0, 2, 0, 14, 31, 63, 127]
theorem spec_DrawRecordBytes.tab5 : rtab .any (opsOf Try.f51 5) = spec_DrawRecordBytes.T5 := by kernel_rfl
theorem spec_DrawRecordBytes.bits5 : waitsOk spec_DrawRecordBytes.T5.2 spec_DrawRecordBytes.B5 = true := by kernel_rfl
set_option maxHeartbeats 8000000 in
set_option maxRecDepth 100000 in
theorem spec_DrawRecordBytes.calls (k : Nat) (A0 : Option Addr) (c0 : Nat) (l0 : List Int) (r1 : Int) (r2 : Int) (r3 : Bool) (r4 : List Int) (r5 : Bool) (r6 : List Int) (r7 : Int) (r8 : Int) (w : World) (hr0 : Kd.C (Kd.int .u8) w A0 l0.length l0) (hc0 : l0.length ≤ c0) (h : spec_DrawRecordBytes.f k l0 = some (r1, r2, r3, r4, r5, r6, r7, r8)) :
    Calls Try.prog 51 #[.slice A0 l0.length c0] w fun e w' => ∃ v3_ v5_ : Value, e = .returned (.tuple #[.agg #[.int .i64 r1, .int .i64 r2, .bool r3, v3_, .bool r5, v5_], .int .i64 r7, .int .i64 r8]) ∧ Kd.R (Kd.int .i64) 3 w' w.heap.size (fun k_ => some k_ ≠ (v5_ : Value).ownBlock) v3_ r4 ∧ Kd.R (Kd.int .i64) 3 w' w.heap.size (fun k_ => some k_ ≠ (v3_ : Value).ownBlock) v5_ r6 ∧ Below w.heap.size w w' := by
  have hu27 := Try.underlying27
  have HR0 := Aside0.mk hr0
  have HC0 := Aside0.mk hc0
  clear hr0 hc0
  have HB := Aside0.mk (Below.refl w.heap.size w)
  have H : ((spec_l6Open.f l0).bind fun bt226 => ((spec_l91Record.f k bt226.1 bt226.2).bind fun bt229 => ((spec_l6Rd_pick.f k bt226.1 bt229.2.2.2.2.2.2 16).bind fun bt241 => (if bt241.1 = 0 then ((some (([(-1), 99999, 100000] : List Int) : List Int)).bind fun y243 => ((spec_l6Rd_pick.f k bt226.1 bt241.2 3).bind fun bt246 => (if 0 ≤ bt246.1 then (if bt246.1 < (y243.length : Int) then ((some (([(-1), 99999, 100000] : List Int) : List Int)).bind fun y249 => ((spec_l6Rd_pick.f k bt226.1 bt246.2 3).bind fun bt252 => (if 0 ≤ bt252.1 then (if bt252.1 < (y249.length : Int) then (some (bt229.1, bt229.2.1, bt229.2.2.1, bt229.2.2.2.1, bt229.2.2.2.2.1, bt229.2.2.2.2.2.1, rd y243 bt246.1, rd y249 bt252.1)) else (none)) else (none)))) else (none)) else (none)))) else ((spec_l6Rd_pick.f k bt226.1 bt241.2 60).bind fun bt255 => ((spec_l6Rd_pick.f k bt226.1 bt255.2 250).bind fun bt257 => (some (bt229.1, bt229.2.1, bt229.2.2.1, bt229.2.2.2.1, bt229.2.2.2.2.1, bt229.2.2.2.2.2.1, bt255.1, bt257.1)))))))) = some (r1, r2, r3, r4, r5, r6, r7, r8) := h
  clear h
  replace H := Option.bind_eq_some_iff.mp H
  obtain ⟨⟨t226, t227⟩, A20, H⟩ := H
  replace H : ((spec_l91Record.f k t226 t227).bind fun bt229 => ((spec_l6Rd_pick.f k t226 bt229.2.2.2.2.2.2 16).bind fun bt241 => (if bt241.1 = 0 then ((some (([(-1), 99999, 100000] : List Int) : List Int)).bind fun y243 => ((spec_l6Rd_pick.f k t226 bt241.2 3).bind fun bt246 => (if 0 ≤ bt246.1 then (if bt246.1 < (y243.length : Int) then ((some (([(-1), 99999, 100000] : List Int) : List Int)).bind fun y249 => ((spec_l6Rd_pick.f k t226 bt246.2 3).bind fun bt252 => (if 0 ≤ bt252.1 then (if bt252.1 < (y249.length : Int) then (some (bt229.1, bt229.2.1, bt229.2.2.1, bt229.2.2.2.1, bt229.2.2.2.2.1, bt229.2.2.2.2.2.1, rd y243 bt246.1, rd y249 bt252.1)) else (none)) else (none)))) else (none)) else (none)))) else ((spec_l6Rd_pick.f k t226 bt241.2 60).bind fun bt255 => ((spec_l6Rd_pick.f k t226 bt255.2 250).bind fun bt257 => (some (bt229.1, bt229.2.1, bt229.2.2.1, bt229.2.2.2.1, bt229.2.2.2.2.1, bt229.2.2.2.2.2.1, bt255.1, bt257.1))))))) = some (r1, r2, r3, r4, r5, r6, r7, r8) := H
  have A2 := Aside0.mk A20
  clear A20
  replace H := Option.bind_eq_some_iff.mp H
  obtain ⟨⟨t229, t230, t231, t232, t235, t236, t239⟩, A30, H⟩ := H
  replace H : ((spec_l6Rd_pick.f k t226 t239 16).bind fun bt241 => (if bt241.1 = 0 then ((some (([(-1), 99999, 100000] : List Int) : List Int)).bind fun y243 => ((spec_l6Rd_pick.f k t226 bt241.2 3).bind fun bt246 => (if 0 ≤ bt246.1 then (if bt246.1 < (y243.length : Int) then ((some (([(-1), 99999, 100000] : List Int) : List Int)).bind fun y249 => ((spec_l6Rd_pick.f k t226 bt246.2 3).bind fun bt252 => (if 0 ≤ bt252.1 then (if bt252.1 < (y249.length : Int) then (some (t229, t230, t231, t232, t235, t236, rd y243 bt246.1, rd y249 bt252.1)) else (none)) else (none)))) else (none)) else (none)))) else ((spec_l6Rd_pick.f k t226 bt241.2 60).bind fun bt255 => ((spec_l6Rd_pick.f k t226 bt255.2 250).bind fun bt257 => (some (t229, t230, t231, t232, t235, t236, bt255.1, bt257.1)))))) = some (r1, r2, r3, r4, r5, r6, r7, r8) := H
  have A3 := Aside0.mk A30
  clear A30
  replace H := Option.bind_eq_some_iff.mp H
  obtain ⟨⟨t241, t242⟩, A40, H⟩ := H
  replace H : (if t241 = 0 then ((some (([(-1), 99999, 100000] : List Int) : List Int)).bind fun y243 => ((spec_l6Rd_pick.f k t226 t242 3).bind fun bt246 => (if 0 ≤ bt246.1 then (if bt246.1 < (y243.length : Int) then ((some (([(-1), 99999, 100000] : List Int) : List Int)).bind fun y249 => ((spec_l6Rd_pick.f k t226 bt246.2 3).bind fun bt252 => (if 0 ≤ bt252.1 then (if bt252.1 < (y249.length : Int) then (some (t229, t230, t231, t232, t235, t236, rd y243 bt246.1, rd y249 bt252.1)) else (none)) else (none)))) else (none)) else (none)))) else ((spec_l6Rd_pick.f k t226 t242 60).bind fun bt255 => ((spec_l6Rd_pick.f k t226 bt255.2 250).bind fun bt257 => (some (t229, t230, t231, t232, t235, t236, bt255.1, bt257.1))))) = some (r1, r2, r3, r4, r5, r6, r7, r8) := H
  have A4 := Aside0.mk A40
  clear A40
  by_cases c5 : t241 = 0
  · rw [if_pos c5] at H
    have c5b0 : (t241 == 0) = true := beq_iff_eq.mpr c5
    have c5b1 : (t241 != 0) = false := bne_eq_false_iff_eq.mpr c5
    clear c5
    obtain ⟨y243, hy243⟩ : ∃ y_ : List Int, y_ = (([(-1), 99999, 100000] : List Int)) := ⟨_, rfl⟩
    replace H : ((spec_l6Rd_pick.f k t226 t242 3).bind fun bt246 => (if 0 ≤ bt246.1 then (if bt246.1 < (y243.length : Int) then ((some (([(-1), 99999, 100000] : List Int) : List Int)).bind fun y249 => ((spec_l6Rd_pick.f k t226 bt246.2 3).bind fun bt252 => (if 0 ≤ bt252.1 then (if bt252.1 < (y249.length : Int) then (some (t229, t230, t231, t232, t235, t236, rd y243 bt246.1, rd y249 bt252.1)) else (none)) else (none)))) else (none)) else (none))) = some (r1, r2, r3, r4, r5, r6, r7, r8) := by first | (rw [hy243]; with_reducible exact H) | (have H2_ := (Option.bind_some _ _).symm.trans H; rw [hy243]; with_reducible exact H2_) | (have H2_ := (Option.bind_some _ _).symm.trans H; with_reducible exact H2_) | with_reducible exact H | (rw [hy243]; exact H) | exact H
    have Ny243 := Aside0.mk hy243
    clear hy243
    replace H := Option.bind_eq_some_iff.mp H
    obtain ⟨⟨t246, t247⟩, A60, H⟩ := H
    replace H : (if 0 ≤ t246 then (if t246 < (y243.length : Int) then ((some (([(-1), 99999, 100000] : List Int) : List Int)).bind fun y249 => ((spec_l6Rd_pick.f k t226 t247 3).bind fun bt252 => (if 0 ≤ bt252.1 then (if bt252.1 < (y249.length : Int) then (some (t229, t230, t231, t232, t235, t236, rd y243 t246, rd y249 bt252.1)) else (none)) else (none)))) else (none)) else (none)) = some (r1, r2, r3, r4, r5, r6, r7, r8) := H
    have A6 := Aside0.mk A60
    clear A60
    by_cases c7 : 0 ≤ t246
    · rw [if_pos c7] at H
      have c7b0 : decide (0 ≤ t246) = true := decide_eq_true c7
      clear c7
      by_cases c8 : t246 < (y243.length : Int)
      · rw [if_pos c8] at H
        have c8b0 : decide (t246 < (y243.length : Int)) = true := decide_eq_true c8
        clear c8
        obtain ⟨y249, hy249⟩ : ∃ y_ : List Int, y_ = (([(-1), 99999, 100000] : List Int)) := ⟨_, rfl⟩
        replace H : ((spec_l6Rd_pick.f k t226 t247 3).bind fun bt252 => (if 0 ≤ bt252.1 then (if bt252.1 < (y249.length : Int) then (some (t229, t230, t231, t232, t235, t236, rd y243 t246, rd y249 bt252.1)) else (none)) else (none))) = some (r1, r2, r3, r4, r5, r6, r7, r8) := by first | (rw [hy249]; with_reducible exact H) | (have H2_ := (Option.bind_some _ _).symm.trans H; rw [hy249]; with_reducible exact H2_) | (have H2_ := (Option.bind_some _ _).symm.trans H; with_reducible exact H2_) | with_reducible exact H | (rw [hy249]; exact H) | exact H
        have Ny249 := Aside0.mk hy249
        clear hy249
        replace H := Option.bind_eq_some_iff.mp H
        obtain ⟨⟨t252, t253⟩, A90, H⟩ := H
        replace H : (if 0 ≤ t252 then (if t252 < (y249.length : Int) then (some (t229, t230, t231, t232, t235, t236, rd y243 t246, rd y249 t252)) else (none)) else (none)) = some (r1, r2, r3, r4, r5, r6, r7, r8) := H
        have A9 := Aside0.mk A90
        clear A90
        by_cases c10 : 0 ≤ t252
        · rw [if_pos c10] at H
          have c10b0 : decide (0 ≤ t252) = true := decide_eq_true c10
          clear c10
          by_cases c11 : t252 < (y249.length : Int)
          · rw [if_pos c11] at H
            have c11b0 : decide (t252 < (y249.length : Int)) = true := decide_eq_true c11
            clear c11
            simp only [Option.some.injEq, Prod.mk.injEq] at H
            obtain ⟨rfl, rfl, rfl, rfl, rfl, rfl, rfl, rfl⟩ := H
            go_enter Try.func51, Try.ntmps51
            try go_wp2_with (first | ((with_reducible refine gate_dst (N := 2) rfl ?_); refine box_event ?hg (N := 2) ?hd (cs := #[.int .i64 0, .int .i64 0, .bool false, .slice none 0 0, .bool false, .slice none 0 0]) (t := 27) ?hr ?_; (case hd => rfl); (case hg => rfl); (case hr => first | (go_simp; done) | (go_simp; rfl)); intro gb225 hg w12 hbox hb; have n0_ := Aside0.mk (below_step (by repeat (first | (with_reducible first | exact HB.out | apply below_alloc | apply pw_below_drewN | apply below_drew1) | exact HB.out)) hb); have n1_ := Aside0.mk (hbox); have n2_ := Aside0.mk ((by rw [hg]; exact (below_size (by repeat (first | (with_reducible first | exact HB.out | apply below_alloc | apply pw_below_drewN | apply below_drew1) | exact HB.out))) : w.heap.size ≤ gb225)); have n3_ := Aside0.mk ((by rw [hg]; exact (below_size (by repeat (first | (with_reducible first | exact HB.out | apply below_alloc | apply pw_below_drewN | apply below_drew1) | exact HB.out))) : w.heap.size ≤ gb225)); clear HB; have HB := n0_; have BK225 := n1_; have GW225 := n2_; have GE225 := n3_; clear n0_ n1_ n2_ n3_; clear hb hbox hg) | ((with_reducible refine gate_callee (f := 59) rfl ?_); refine goesL_ (some 8) rfl rfl Try.func59 (by kernel_rfl) rfl #[.slice A0 l0.length c0] rfl (by (try simp only [List.map_toArray, List.map_cons, List.map_nil]); first | done | rfl | (simp only [List.length_drop, List.length_take]; rfl)) ?_; (with_reducible refine (spec_l6Open.calls _ _ l0 t226 t227 w _ ?side1 ?side2 ?side3 A2.out).mono ?_); (case side1 => repeat (first | (with_reducible first | exact HB.out | apply below_alloc | apply pw_below_drewN | apply below_drew1 | refine below_set ?_ GE225.out) | exact HB.out)); (case side2 => exact HR0.out); (case side3 => exact HC0.out); rintro e w13 ⟨g228, rfl, hi, hb, hb2⟩; refine ⟨_, rfl, ?_⟩; have n0_ := Aside0.mk (blk_below (g := gb225) (o := .cells #[.int .i64 0, .int .i64 0, .bool false, .slice none 0 0, .bool false, .slice none 0 0] 27 (0, 0)) (by (with_reducible repeat (first | refine blk_drewN ?_ _ | refine blk_drew ?_ | refine blk_alloc ?_ _)); exact BK225.out) hb2); have n1_ := Aside0.mk (hb); have n2_ := Aside0.mk (hi); have n3_ := Aside0.mk (IsS91.ne_blk hi (blk_below (g := gb225) (o := .cells #[.int .i64 0, .int .i64 0, .bool false, .slice none 0 0, .bool false, .slice none 0 0] 27 (0, 0)) (by (with_reducible repeat (first | refine blk_drewN ?_ _ | refine blk_drew ?_ | refine blk_alloc ?_ _)); exact BK225.out) hb2) (by decide)); have n4_ := Aside0.mk (Ne.symm (IsS91.ne_blk hi (blk_below (g := gb225) (o := .cells #[.int .i64 0, .int .i64 0, .bool false, .slice none 0 0, .bool false, .slice none 0 0] 27 (0, 0)) (by (with_reducible repeat (first | refine blk_drewN ?_ _ | refine blk_drew ?_ | refine blk_alloc ?_ _)); exact BK225.out) hb2) (by decide))); clear BK225; clear HB; have BK225 := n0_; have HB := n1_; have HI228 := n2_; have NB228_225 := n3_; have NB225_228 := n4_; clear n0_ n1_ n2_ n3_ n4_; (try clear hb); (try clear hb2); (try clear hk); (try clear hi)) | ((with_reducible refine gate_callee (f := 85) rfl ?_); refine goesL_ (some 10) rfl rfl Try.func85 (by kernel_rfl) rfl #[.pointer (some ⟨g228, 0, none⟩)] rfl (by (try simp only [List.map_toArray, List.map_cons, List.map_nil]); first | done | rfl | (simp only [List.length_drop, List.length_take]; rfl)) ?_; (with_reducible refine (spec_l91Record.calls k g228 t226 t227 t229 t230 t231 t232 t235 t236 t239 w _ ?side1 ?side2 A3.out).mono ?_); (case side1 => repeat (first | (with_reducible first | exact HI228.out | apply IsS91.alloc | apply IsS91.drewN | apply IsS91.drew | apply IsS91.set_1 | refine IsS91.far ?_ NB228_225.out _) | exact HI228.out)); (case side2 => repeat (first | (with_reducible first | exact HB.out | apply below_alloc | apply pw_below_drewN | apply below_drew1 | refine below_set ?_ (IsS91.ge HI228.out) | refine below_set ?_ GE225.out) | exact HB.out)); rintro e w14 ⟨v233, v237, rfl, ho0, ho1, hi, hb, hk⟩; refine ⟨_, rfl, ?_⟩; have n0_ := Aside0.mk (KeepBut.blk hk (g' := gb225) (o := .cells #[.int .i64 0, .int .i64 0, .bool false, .slice none 0 0, .bool false, .slice none 0 0] 27 (0, 0)) (by (with_reducible repeat (first | refine blk_drewN ?_ _ | refine blk_drew ?_ | refine blk_alloc ?_ _)); exact BK225.out) NB225_228.out (by simp)); have n1_ := Aside0.mk (Kd.R_lower ho0 (below_size (by repeat (first | (with_reducible first | exact HB.out | apply below_alloc | apply pw_below_drewN | apply below_drew1 | refine below_set ?_ (IsS91.ge HI228.out) | refine below_set ?_ GE225.out) | exact HB.out)))); have n2_ := Aside0.mk (Kd.R_lower ho1 (below_size (by repeat (first | (with_reducible first | exact HB.out | apply below_alloc | apply pw_below_drewN | apply below_drew1 | refine below_set ?_ (IsS91.ge HI228.out) | refine below_set ?_ GE225.out) | exact HB.out)))); have n3_ := Aside0.mk (hb); have n4_ := Aside0.mk (hi); clear BK225; clear HB; clear HI228; have BK225 := n0_; have HO234 := n1_; have HO238 := n2_; have HB := n3_; have HI228 := n4_; clear n0_ n1_ n2_ n3_ n4_; (try clear hb); (try clear hb2); (try clear hk); (try clear hi); (try clear ho0); (try clear ho1)) | ((with_reducible refine gate_dst (N := 6) rfl ?_); refine box_event ?hg (N := 6) ?hd (cs := #[.int .i64 0, .int .i64 0, .bool false, .slice none 0 0, .bool false, .slice none 0 0]) (t := 27) ?hr ?_; (case hd => rfl); (case hg => rfl); (case hr => first | (go_simp; done) | (go_simp; rfl)); intro gb240 hg w15 hbox hb; have n0_ := Aside0.mk (Kd.R_below (by (with_reducible repeat (first | apply Kd.R_alloc | apply Kd.R_drewN | apply Kd.R_drew)); exact HO234.out) hb); have n1_ := Aside0.mk (Kd.R_below (by (with_reducible repeat (first | apply Kd.R_alloc | apply Kd.R_drewN | apply Kd.R_drew)); exact HO238.out) hb); have n2_ := Aside0.mk (blk_below (g := gb225) (o := .cells #[.int .i64 0, .int .i64 0, .bool false, .slice none 0 0, .bool false, .slice none 0 0] 27 (0, 0)) (by (with_reducible repeat (first | refine blk_drewN ?_ _ | refine blk_drew ?_ | refine blk_alloc ?_ _)); exact BK225.out) hb); have n3_ := Aside0.mk (IsS91.below (by repeat (first | (with_reducible first | exact HI228.out | apply IsS91.alloc | apply IsS91.drewN | apply IsS91.drew | apply IsS91.set_1 | refine IsS91.far ?_ NB228_225.out _) | exact HI228.out)) hb); have n4_ := Aside0.mk (below_step (by repeat (first | (with_reducible first | exact HB.out | apply below_alloc | apply pw_below_drewN | apply below_drew1 | refine below_set ?_ (IsS91.ge HI228.out) | refine below_set ?_ GE225.out) | exact HB.out)) hb); have n5_ := Aside0.mk (hbox); have n6_ := Aside0.mk ((by rw [hg]; exact (below_size (by repeat (first | (with_reducible first | exact HB.out | apply below_alloc | apply pw_below_drewN | apply below_drew1 | refine below_set ?_ (IsS91.ge HI228.out) | refine below_set ?_ GE225.out) | exact HB.out))) : w.heap.size ≤ gb240)); have n7_ := Aside0.mk ((by rw [hg]; exact (below_size (by repeat (first | (with_reducible first | exact HB.out | apply below_alloc | apply pw_below_drewN | apply below_drew1 | refine below_set ?_ (IsS91.ge HI228.out) | refine below_set ?_ GE225.out) | exact HB.out))) : w.heap.size ≤ gb240)); have n8_ := Aside0.mk ((by rw [hg]; exact Nat.ne_of_lt (blk_lt (g := gb225) (o := .cells #[.int .i64 0, .int .i64 0, .bool false, .slice none 0 0, .bool false, .slice none 0 0] 27 (0, 0)) (by (with_reducible repeat (first | refine blk_drewN ?_ _ | refine blk_drew ?_ | refine blk_alloc ?_ _)); exact BK225.out)) : gb225 ≠ gb240)); have n9_ := Aside0.mk ((by rw [hg]; exact Nat.ne_of_gt (blk_lt (g := gb225) (o := .cells #[.int .i64 0, .int .i64 0, .bool false, .slice none 0 0, .bool false, .slice none 0 0] 27 (0, 0)) (by (with_reducible repeat (first | refine blk_drewN ?_ _ | refine blk_drew ?_ | refine blk_alloc ?_ _)); exact BK225.out)) : gb240 ≠ gb225)); have n10_ := Aside0.mk ((by rw [hg]; exact Nat.ne_of_lt (IsS91.lt (show IsS91 w _ g228 t226 t239 from by repeat (first | (with_reducible first | exact HI228.out | apply IsS91.alloc | apply IsS91.drewN | apply IsS91.drew | apply IsS91.set_1 | refine IsS91.far ?_ NB228_225.out _) | exact HI228.out))) : g228 ≠ gb240)); have n11_ := Aside0.mk ((by rw [hg]; exact Nat.ne_of_gt (IsS91.lt (show IsS91 w _ g228 t226 t239 from by repeat (first | (with_reducible first | exact HI228.out | apply IsS91.alloc | apply IsS91.drewN | apply IsS91.drew | apply IsS91.set_1 | refine IsS91.far ?_ NB228_225.out _) | exact HI228.out))) : gb240 ≠ g228)); clear HO234; clear HO238; clear BK225; clear HI228; clear HB; have HO234 := n0_; have HO238 := n1_; have BK225 := n2_; have HI228 := n3_; have HB := n4_; have BK240 := n5_; have GW240 := n6_; have GE240 := n7_; have NB225_240 := n8_; have NB240_225 := n9_; have NB228_240 := n10_; have NB240_228 := n11_; clear n0_ n1_ n2_ n3_ n4_ n5_ n6_ n7_ n8_ n9_ n10_ n11_; clear hb hbox hg; have hnb16 := NB240_225.out; have hnc16 := NB225_240.out; have hnb17 := NB240_228.out; have hnc17 := NB228_240.out; have hcz18_0 : w15.cell? ⟨gb240, 0, none⟩ = some (.int .i64 0) := (blk_cell BK240.out 0).trans rfl; have hcz18_1 : w15.cell? ⟨gb240, 1, none⟩ = some (.int .i64 0) := (blk_cell BK240.out 1).trans rfl; have hcz18_2 : w15.cell? ⟨gb240, 2, none⟩ = some (.bool false) := (blk_cell BK240.out 2).trans rfl; have hcz18_3 : w15.cell? ⟨gb240, 3, none⟩ = some (.slice none 0 0) := (blk_cell BK240.out 3).trans rfl; have hcz18_4 : w15.cell? ⟨gb240, 4, none⟩ = some (.bool false) := (blk_cell BK240.out 4).trans rfl; have hcz18_5 : w15.cell? ⟨gb240, 5, none⟩ = some (.slice none 0 0) := (blk_cell BK240.out 5).trans rfl; have hfz18_0 := blk_frozen BK240.out 0; have hfz18_1 := blk_frozen BK240.out 1; have hfz18_2 := blk_frozen BK240.out 2; have hfz18_3 := blk_frozen BK240.out 3; have hfz18_4 := blk_frozen BK240.out 4; have hfz18_5 := blk_frozen BK240.out 5; obtain ⟨Ao19, co19, eo19⟩ := Kd.R_slice HO234.out; subst eo19; obtain ⟨Ao20, co20, eo20⟩ := Kd.R_slice HO238.out; subst eo20) | ((with_reducible refine gate_callee (f := 65) rfl ?_); refine goesL_ (some 12) rfl rfl Try.func65 (by kernel_rfl) rfl #[.pointer (some ⟨g228, 0, none⟩), .int .i64 16] rfl (by (try simp only [List.map_toArray, List.map_cons, List.map_nil]); first | done | rfl | (simp only [List.length_drop, List.length_take]; rfl)) ?_; (with_reducible refine (spec_l6Rd_pick.calls k g228 t226 t239 16 t241 t242 w _ ?side1 ?side2 A4.out).mono ?_); (case side1 => repeat (first | (with_reducible first | exact HI228.out | apply IsS91.alloc | apply IsS91.drewN | apply IsS91.drew | apply IsS91.set_1 | refine IsS91.far ?_ NB228_225.out _ | refine IsS91.far ?_ NB228_240.out _) | exact HI228.out)); (case side2 => repeat (first | (with_reducible first | exact HB.out | apply below_alloc | apply pw_below_drewN | apply below_drew1 | refine below_set ?_ (IsS91.ge HI228.out) | refine below_set ?_ GE225.out | refine below_set ?_ GE240.out) | exact HB.out)); rintro e w21 ⟨rfl, hi, hb, hk⟩; refine ⟨_, rfl, ?_⟩; have n0_ := Aside0.mk (KeepBut.blk hk (g' := gb225) (o := .cells #[.int .i64 0, .int .i64 0, .bool false, .slice none 0 0, .bool false, .slice none 0 0] 27 (0, 0)) (by (with_reducible repeat (first | refine blk_drewN ?_ _ | refine blk_drew ?_ | refine blk_alloc ?_ _)); refine blk_far ?_ NB225_240.out _; (with_reducible repeat (first | refine blk_drewN ?_ _ | refine blk_drew ?_ | refine blk_alloc ?_ _)); refine blk_far ?_ NB225_240.out _; (with_reducible repeat (first | refine blk_drewN ?_ _ | refine blk_drew ?_ | refine blk_alloc ?_ _)); refine blk_far ?_ NB225_240.out _; (with_reducible repeat (first | refine blk_drewN ?_ _ | refine blk_drew ?_ | refine blk_alloc ?_ _)); refine blk_far ?_ NB225_240.out _; (with_reducible repeat (first | refine blk_drewN ?_ _ | refine blk_drew ?_ | refine blk_alloc ?_ _)); refine blk_far ?_ NB225_240.out _; (with_reducible repeat (first | refine blk_drewN ?_ _ | refine blk_drew ?_ | refine blk_alloc ?_ _)); refine blk_far ?_ NB225_240.out _; (with_reducible repeat (first | refine blk_drewN ?_ _ | refine blk_drew ?_ | refine blk_alloc ?_ _)); exact BK225.out) NB225_228.out (by simp)); have n1_ := Aside0.mk (Kd.R_mono (Kd.R_keep (IsS91.apart (show IsS91 w _ g228 t226 t239 from by repeat (first | (with_reducible first | exact HI228.out | apply IsS91.alloc | apply IsS91.drewN | apply IsS91.drew | apply IsS91.set_1 | refine IsS91.far ?_ NB228_225.out _ | refine IsS91.far ?_ NB228_240.out _) | exact HI228.out)) (by (with_reducible repeat (first | apply Kd.R_alloc | apply Kd.R_drewN | apply Kd.R_drew)); exact (Kd.R_mono (Kd.R_far (p := ⟨gb240, 5, none⟩) (Kd.R_far (p := ⟨gb240, 4, none⟩) (Kd.R_far (p := ⟨gb240, 3, none⟩) (Kd.R_far (p := ⟨gb240, 2, none⟩) (Kd.R_far (p := ⟨gb240, 1, none⟩) (Kd.R_far (p := ⟨gb240, 0, none⟩) (Kd.R_types HO234.out BK240.out (by decide)) (fun _ hk => hk.2) (.int .i64 t229)) (fun _ hk => hk.2) (.int .i64 t230)) (fun _ hk => hk.2) (.bool t231)) (fun _ hk => hk.2) (.slice Ao19 t232.length co19)) (fun _ hk => hk.2) (.bool t235)) (fun _ hk => hk.2) (.slice Ao20 t236.length co20)) (fun _ h_ => h_.1))) (by decide)) hk (fun _ h => h.2)) (fun _ h => h.1)); have n2_ := Aside0.mk (Kd.R_mono (Kd.R_keep (IsS91.apart (show IsS91 w _ g228 t226 t239 from by repeat (first | (with_reducible first | exact HI228.out | apply IsS91.alloc | apply IsS91.drewN | apply IsS91.drew | apply IsS91.set_1 | refine IsS91.far ?_ NB228_225.out _ | refine IsS91.far ?_ NB228_240.out _) | exact HI228.out)) (by (with_reducible repeat (first | apply Kd.R_alloc | apply Kd.R_drewN | apply Kd.R_drew)); exact (Kd.R_mono (Kd.R_far (p := ⟨gb240, 5, none⟩) (Kd.R_far (p := ⟨gb240, 4, none⟩) (Kd.R_far (p := ⟨gb240, 3, none⟩) (Kd.R_far (p := ⟨gb240, 2, none⟩) (Kd.R_far (p := ⟨gb240, 1, none⟩) (Kd.R_far (p := ⟨gb240, 0, none⟩) (Kd.R_types HO238.out BK240.out (by decide)) (fun _ hk => hk.2) (.int .i64 t229)) (fun _ hk => hk.2) (.int .i64 t230)) (fun _ hk => hk.2) (.bool t231)) (fun _ hk => hk.2) (.slice Ao19 t232.length co19)) (fun _ hk => hk.2) (.bool t235)) (fun _ hk => hk.2) (.slice Ao20 t236.length co20)) (fun _ h_ => h_.1))) (by decide)) hk (fun _ h => h.2)) (fun _ h => h.1)); have n3_ := Aside0.mk (KeepBut.blk hk (g' := gb240) (o := .cells #[.int .i64 t229, .int .i64 t230, .bool t231, .slice Ao19 t232.length co19, .bool t235, .slice Ao20 t236.length co20] 27 (0, 0)) (by (with_reducible repeat (first | refine blk_drewN ?_ _ | refine blk_drew ?_ | refine blk_alloc ?_ _)); refine blk_put (cs := #[.int .i64 t229, .int .i64 t230, .bool t231, .slice Ao19 t232.length co19, .bool t235, .slice none 0 0]) ?_ 5 _ rfl; (with_reducible repeat (first | refine blk_drewN ?_ _ | refine blk_drew ?_ | refine blk_alloc ?_ _)); refine blk_put (cs := #[.int .i64 t229, .int .i64 t230, .bool t231, .slice Ao19 t232.length co19, .bool false, .slice none 0 0]) ?_ 4 _ rfl; (with_reducible repeat (first | refine blk_drewN ?_ _ | refine blk_drew ?_ | refine blk_alloc ?_ _)); refine blk_put (cs := #[.int .i64 t229, .int .i64 t230, .bool t231, .slice none 0 0, .bool false, .slice none 0 0]) ?_ 3 _ rfl; (with_reducible repeat (first | refine blk_drewN ?_ _ | refine blk_drew ?_ | refine blk_alloc ?_ _)); refine blk_put (cs := #[.int .i64 t229, .int .i64 t230, .bool false, .slice none 0 0, .bool false, .slice none 0 0]) ?_ 2 _ rfl; (with_reducible repeat (first | refine blk_drewN ?_ _ | refine blk_drew ?_ | refine blk_alloc ?_ _)); refine blk_put (cs := #[.int .i64 t229, .int .i64 0, .bool false, .slice none 0 0, .bool false, .slice none 0 0]) ?_ 1 _ rfl; (with_reducible repeat (first | refine blk_drewN ?_ _ | refine blk_drew ?_ | refine blk_alloc ?_ _)); refine blk_put (cs := #[.int .i64 0, .int .i64 0, .bool false, .slice none 0 0, .bool false, .slice none 0 0]) ?_ 0 _ rfl; (with_reducible repeat (first | refine blk_drewN ?_ _ | refine blk_drew ?_ | refine blk_alloc ?_ _)); exact BK240.out) NB240_228.out (by simp)); have n4_ := Aside0.mk (hb); have n5_ := Aside0.mk (hi); clear BK225; clear HO234; clear HO238; clear BK240; clear HB; clear HI228; have BK225 := n0_; have HO234 := n1_; have HO238 := n2_; have BK240 := n3_; have HB := n4_; have HI228 := n5_; clear n0_ n1_ n2_ n3_ n4_ n5_; (try clear hb); (try clear hb2); (try clear hk); (try clear hi)))
            have pi248 : (0 ≤ (t246 : Int)) = True := eq_true (of_decide_eq_true (by first | (with_reducible assumption) | assumption))
            have qi248 : (t246 < (y243.length : Int)) = True := eq_true (of_decide_eq_true (by first | (with_reducible assumption) | assumption))
            have pi254 : (0 ≤ (t252 : Int)) = True := eq_true (of_decide_eq_true (by first | (with_reducible assumption) | assumption))
            have qi254 : (t252 < (y249.length : Int)) = True := eq_true (of_decide_eq_true (by first | (with_reducible assumption) | assumption))
            have n0_ := Aside0.mk (Kd.R_drew HO234.out)
            have n1_ := Aside0.mk (Kd.R_drew HO238.out)
            have n2_ := Aside0.mk (blk_drew BK225.out)
            have n3_ := Aside0.mk (blk_drew BK240.out)
            have n4_ := Aside0.mk (IsS91.drew HI228.out)
            have n5_ := Aside0.mk (below_drew1 HB.out)
            clear HO234
            clear HO238
            clear BK225
            clear BK240
            clear HI228
            clear HB
            have HO234 := n0_
            have HO238 := n1_
            have BK225 := n2_
            have BK240 := n3_
            have HI228 := n4_
            have HB := n5_
            clear n0_ n1_ n2_ n3_ n4_ n5_
            refine start_ (n := 14) (S := fun w' => True) (ds := []) #[false, false, false, false, false, false, false, false, false, false, false, false, false, false] (by kernel_rfl) rfl rfl trivial (fun hHeld => ?_); refine with_tabW spec_DrawRecordBytes.tab4 spec_DrawRecordBytes.bits4 (fun HT_ HW_ => ?_)
            generalize w21.drew = w22 at HO234 HO238 BK225 BK240 HI228 HB hHeld ⊢
            refine pure_ (i := 2) (N := some 16) (v := ?_) (a' := ?_) #[false, false, true, false, false, false, false, false, false, false, false, false, false, false] rfl rfl (any_of HT_.out (by kernel_rfl)) (fun _ _ _ h => h) (Or.inl ⟨by rfl, ?_⟩) ?_ ?_
            rotate_left
            · intro w'
              go_simp
              with_reducible rfl
            rotate_left
            · simp only [Act.put, List.setIfInBounds_toArray, List.set_cons_zero, List.set_cons_succ, i64_w, i32_w]
              rfl
            refine pure_ (i := 7) (N := some 21) (v := ?_) (a' := ?_) #[false, false, true, false, false, false, false, true, false, false, false, false, false, false] rfl rfl (any_of HT_.out (by kernel_rfl)) (fun _ _ _ h => h) (Or.inl ⟨by rfl, ?_⟩) ?_ ?_
            rotate_left
            · intro w'
              go_simp
              with_reducible rfl
            rotate_left
            · simp only [Act.put, List.setIfInBounds_toArray, List.set_cons_zero, List.set_cons_succ, i64_w, i32_w]
              rfl
            refine inv_at [0, 1, 3, 4, 5, 6, 8, 9, 10, 11, 12, 13] (fun a0_ b a w' => ∃ (v244 : Value) (adz_v244 : Addr) (v250 : Value) (adz_v250 : Addr) (m4_ : Value) (m9_ : Value), a = putSel a0_ b [(0, 14, .agg #[.int .i64 t229, .int .i64 t230, .bool t231, .slice Ao19 t232.length co19, .bool t235, .slice Ao20 t236.length co20]), (1, 15, v244), (3, 17, .int .i64 t246), (4, 18, m4_), (5, 19, .int .i64 (rd y243 t246)), (6, 20, v250), (8, 22, .int .i64 t252), (9, 23, m9_), (10, 24, .int .i64 (rd y249 t252)), (12, 3, .int .i64 (rd y243 t246)), (13, 4, .int .i64 (rd y249 t252))] ∧ (Kd.R (Kd.int .i64) 3 w' w.heap.size (fun k_ => some k_ ≠ (.slice Ao20 t236.length co20 : Value).ownBlock) (.slice Ao19 t232.length co19) t232) ∧ (Kd.R (Kd.int .i64) 3 w' w.heap.size (fun k_ => some k_ ≠ (.slice Ao19 t232.length co19 : Value).ownBlock) (.slice Ao20 t236.length co20) t236) ∧ (b 11 = false → w'.heap[gb225]? = some (.cells #[.int .i64 0, .int .i64 0, .bool false, .slice none 0 0, .bool false, .slice none 0 0] 27 (0, 0))) ∧ (w'.heap[gb240]? = some (.cells #[.int .i64 t229, .int .i64 t230, .bool t231, .slice Ao19 t232.length co19, .bool t235, .slice Ao20 t236.length co20] 27 (0, 0))) ∧ (b 3 = false → IsS91 w w' g228 t226 t242) ∧ (Below w.heap.size w w') ∧ (b 1 = true → Kd.R (Kd.int .i64) 3 w' w.heap.size (fun k_ => some k_ ≠ (.slice Ao19 t232.length co19 : Value).ownBlock ∧ some k_ ≠ (.slice Ao20 t236.length co20 : Value).ownBlock) v244 y243) ∧ (b 1 = true → ∃ c_, (v244 : Value) = .slice (some adz_v244) y243.length c_) ∧ (b 3 = true → b 8 = false → IsS91 w w' g228 t226 t247) ∧ (b 6 = true → Kd.R (Kd.int .i64) 3 w' w.heap.size (fun k_ => some k_ ≠ (.slice Ao19 t232.length co19 : Value).ownBlock ∧ some k_ ≠ (.slice Ao20 t236.length co20 : Value).ownBlock) v250 y249) ∧ (b 6 = true → ∃ c_, (v250 : Value) = .slice (some adz_v250) y249.length c_) ∧ (b 8 = true → IsS91 w w' g228 t226 t253) ∧ (b 11 = true → w'.heap[gb225]? = some (.cells #[.int .i64 t229, .int .i64 t230, .bool t231, .slice Ao19 t232.length co19, .bool t235, .slice Ao20 t236.length co20] 27 (0, 0))) ∧ (b 4 = true → (m4_ : Value) = .pointer (some (adz_v244.add (t246).toNat))) ∧ (b 9 = true → (m9_ : Value) = .pointer (some (adz_v250.add (t252).toNat)))) HT_.out HW_.out (by kernel_rfl) (by kernel_rfl) ?_ ?_ ?_
            · exact ⟨.bool false, ⟨0, 0, none⟩, .bool false, ⟨0, 0, none⟩, .bool false, .bool false, by simp only [putSel, Bool.false_eq_true, if_false], HO234.out, HO238.out, fun _ => BK225.out, BK240.out, fun _ => HI228.out, HB.out, fun h_ => absurd h_ (by decide), fun h_ => absurd h_ (by decide), fun h_ => absurd h_ (by decide), fun h_ => absurd h_ (by decide), fun h_ => absurd h_ (by decide), fun h_ => absurd h_ (by decide), fun h_ => absurd h_ (by decide), fun h_ => absurd h_ (by decide), fun h_ => absurd h_ (by decide)⟩
            · skip
              clear BK225 BK240 HB HI228 HO234 HO238
              refine steps_cons ?_ ?_
              · rintro b a w' ⟨v244, adz_v244, v250, adz_v250, m4_, m9_, ha, Q_HO234, Q_HO238, Q_BK225, Q_BK240, Q_HI228, Q_HB, Q_HO245, Q_HA_HO245, Q_HI228_e3, Q_HO251, Q_HA_HO251, Q_HI228_e8, Q_BK225_e11, Q_X4_, Q_X9_⟩ hb_ hon hoff
                refine ⟨_, rfl, fun K hK => ?_⟩
                have e6 : a.tmps[6]? = some (.pointer (some ⟨gb240, 0, none⟩)) := by rw [ha]; exact (putSel_off rfl).trans rfl
                replace ha := Aside0.mk ha
                have HO234 := Aside0.mk Q_HO234
                have HO238 := Aside0.mk Q_HO238
                have BK225 := Aside0.mk (Q_BK225 (hoff 11 (by kernel_rfl)))
                have BK240 := Aside0.mk Q_BK240
                have HB := Aside0.mk Q_HB
                have hc0_ : w'.cell? ⟨gb240, 0, none⟩ = some (.int .i64 t229) := (blk_cell BK240.out 0).trans rfl
                have hc1_ : w'.cell? ⟨gb240, 1, none⟩ = some (.int .i64 t230) := (blk_cell BK240.out 1).trans rfl
                have hc2_ : w'.cell? ⟨gb240, 2, none⟩ = some (.bool t231) := (blk_cell BK240.out 2).trans rfl
                have hc3_ : w'.cell? ⟨gb240, 3, none⟩ = some (.slice Ao19 t232.length co19) := (blk_cell BK240.out 3).trans rfl
                have hc4_ : w'.cell? ⟨gb240, 4, none⟩ = some (.bool t235) := (blk_cell BK240.out 4).trans rfl
                have hc5_ : w'.cell? ⟨gb240, 5, none⟩ = some (.slice Ao20 t236.length co20) := (blk_cell BK240.out 5).trans rfl
                refine value_ (w1 := w') (v := .agg #[.int .i64 t229, .int .i64 t230, .bool t231, .slice Ao19 t232.length co19, .bool t235, .slice Ao20 t236.length co20]) (by rfl) rfl ?_ ?_
                · go_simp
                  (try simp only [i64_w])
                  try rfl
                refine hK.out _ _ ⟨v244, adz_v244, v250, adz_v250, m4_, m9_, (by rw [ha.out]; exact putSel_upk 0 hb_ rfl rfl rfl), Q_HO234, Q_HO238, Q_BK225, Q_BK240, Q_HI228, Q_HB, Q_HO245, Q_HA_HO245, Q_HI228_e3, Q_HO251, Q_HA_HO251, Q_HI228_e8, fun h0_ => absurd ((hoff 11 (by kernel_rfl)).symm.trans h0_) (by decide), Q_X4_, Q_X9_⟩
              refine steps_cons ?_ ?_
              · rintro b a w' ⟨v244, adz_v244, v250, adz_v250, m4_, m9_, ha, Q_HO234, Q_HO238, Q_BK225, Q_BK240, Q_HI228, Q_HB, Q_HO245, Q_HA_HO245, Q_HI228_e3, Q_HO251, Q_HA_HO251, Q_HI228_e8, Q_BK225_e11, Q_X4_, Q_X9_⟩ hb_ hon hoff
                refine ⟨_, rfl, fun K hK => ?_⟩
                replace ha := Aside0.mk ha
                have HO234 := Aside0.mk Q_HO234
                have HO238 := Aside0.mk Q_HO238
                have BK240 := Aside0.mk Q_BK240
                have HB := Aside0.mk Q_HB
                refine Kd.R_lit_step (Kd.int .i64) _ 3 ?hg (N := 15) ?hd (xs := ([(-1), 99999, 100000] : List Int)) (inner := [.int .i64 (-1), .int .i64 99999, .int .i64 100000]) (ok := fun _ => True) (okp := fun _ => True) ?hr ?hp (fun _ hk => hk) trivial (Below.refl _ _) (Nat.le_refl _) (by simp) ?_; (case hd => rfl); (case hg => rfl); (case hr => first | (go_simp; done) | (go_simp; rfl)); (case hp => exact (Reps.one (show Kd.M (Kd.int .i64) _ _ _ (-1) [.int .i64 (-1)] from rfl) (Reps.one (show Kd.M (Kd.int .i64) _ _ _ 99999 [.int .i64 99999] from rfl) (Reps.one (show Kd.M (Kd.int .i64) _ _ _ 100000 [.int .i64 100000] from rfl) (Reps.none _ _)))))
                intro v244 w23 ho24 hb hg_ hnew_
                clear hg_ hnew_
                (first | rw [← Ny243.out] at ho24 | (simp only [Int.reduceToNat] at ho24; rw [← Ny243.out] at ho24))
                have n0_ := Aside0.mk (Kd.R_elder' (by (with_reducible repeat (first | apply Kd.R_alloc | apply Kd.R_drewN | apply Kd.R_drew)); exact HO234.out) (Kd.R_base ho24) hb)
                have n1_ := Aside0.mk (Kd.R_elder' (by (with_reducible repeat (first | apply Kd.R_alloc | apply Kd.R_drewN | apply Kd.R_drew)); exact HO238.out) (Kd.R_base ho24) hb)
                have n2_ := Aside0.mk (Kd.R_lower (Kd.R_new' (Kd.R_new' ho24 (Kd.R_lt (by (with_reducible repeat (first | apply Kd.R_alloc | apply Kd.R_drewN | apply Kd.R_drew)); exact HO234.out))) (Kd.R_lt (by (with_reducible repeat (first | apply Kd.R_alloc | apply Kd.R_drewN | apply Kd.R_drew)); exact HO238.out))) (below_size (by repeat (first | (with_reducible first | exact HB.out | apply below_alloc | apply pw_below_drewN | apply below_drew1 | refine below_set ?_ GE225.out | refine below_set ?_ GE240.out) | exact HB.out))))
                have n5_ := Aside0.mk (blk_below (g := gb240) (o := .cells #[.int .i64 t229, .int .i64 t230, .bool t231, .slice Ao19 t232.length co19, .bool t235, .slice Ao20 t236.length co20] 27 (0, 0)) (by (with_reducible repeat (first | refine blk_drewN ?_ _ | refine blk_drew ?_ | refine blk_alloc ?_ _)); exact BK240.out) hb)
                have n6_ := Aside0.mk (below_step (by repeat (first | (with_reducible first | exact HB.out | apply below_alloc | apply pw_below_drewN | apply below_drew1 | refine below_set ?_ GE225.out | refine below_set ?_ GE240.out) | exact HB.out)) hb)
                have z_BK225 := fun (h0_ : b 11 = false) => (show w23.heap[gb225]? = some (.cells #[.int .i64 0, .int .i64 0, .bool false, .slice none 0 0, .bool false, .slice none 0 0] 27 (0, 0)) from by first | exact (blk_below (g := gb225) (o := .cells #[.int .i64 0, .int .i64 0, .bool false, .slice none 0 0, .bool false, .slice none 0 0] 27 (0, 0)) (by (with_reducible repeat (first | refine blk_drewN ?_ _ | refine blk_drew ?_ | refine blk_alloc ?_ _)); exact (Q_BK225 h0_)) hb))
                have z_HI228 := fun (h0_ : b 3 = false) => (show IsS91 w w23 g228 t226 t242 from by first | exact (IsS91.below (by repeat (first | (with_reducible first | exact (Q_HI228 h0_) | apply IsS91.alloc | apply IsS91.drewN | apply IsS91.drew | apply IsS91.set_1 | refine IsS91.far ?_ NB228_225.out _ | refine IsS91.far ?_ NB228_240.out _) | exact (Q_HI228 h0_))) hb))
                have z_HI228_e3 := fun (h0_ : b 3 = true) (h1_ : b 8 = false) => (show IsS91 w w23 g228 t226 t247 from by first | exact (IsS91.below (by repeat (first | (with_reducible first | exact (Q_HI228_e3 h0_ h1_) | apply IsS91.alloc | apply IsS91.drewN | apply IsS91.drew | apply IsS91.set_1 | refine IsS91.far ?_ NB228_225.out _ | refine IsS91.far ?_ NB228_240.out _) | exact (Q_HI228_e3 h0_ h1_))) hb))
                have z_HO251 := fun (h0_ : b 6 = true) => (show Kd.R (Kd.int .i64) 3 w23 w.heap.size (fun k_ => some k_ ≠ (.slice Ao19 t232.length co19 : Value).ownBlock ∧ some k_ ≠ (.slice Ao20 t236.length co20 : Value).ownBlock) v250 y249 from by first | exact (Kd.R_elder' (by (with_reducible repeat (first | apply Kd.R_alloc | apply Kd.R_drewN | apply Kd.R_drew)); exact (Q_HO251 h0_)) (Kd.R_base ho24) hb) | exact Kd.R_mono (Kd.R_elder' (by (with_reducible repeat (first | apply Kd.R_alloc | apply Kd.R_drewN | apply Kd.R_drew)); exact (Q_HO251 h0_)) (Kd.R_base ho24) hb) (fun _ h_ => by first | trivial | exact h_ | exact h_.1))
                have z_HI228_e8 := fun (h0_ : b 8 = true) => (show IsS91 w w23 g228 t226 t253 from by first | exact (IsS91.below (by repeat (first | (with_reducible first | exact (Q_HI228_e8 h0_) | apply IsS91.alloc | apply IsS91.drewN | apply IsS91.drew | apply IsS91.set_1 | refine IsS91.far ?_ NB228_225.out _ | refine IsS91.far ?_ NB228_240.out _) | exact (Q_HI228_e8 h0_))) hb))
                have z_BK225_e11 := fun (h0_ : b 11 = true) => (show w23.heap[gb225]? = some (.cells #[.int .i64 t229, .int .i64 t230, .bool t231, .slice Ao19 t232.length co19, .bool t235, .slice Ao20 t236.length co20] 27 (0, 0)) from by first | exact (blk_below (g := gb225) (o := .cells #[.int .i64 t229, .int .i64 t230, .bool t231, .slice Ao19 t232.length co19, .bool t235, .slice Ao20 t236.length co20] 27 (0, 0)) (by (with_reducible repeat (first | refine blk_drewN ?_ _ | refine blk_drew ?_ | refine blk_alloc ?_ _)); exact (Q_BK225_e11 h0_)) hb))
                clear HO234
                clear HO238
                clear BK240
                clear HB
                have HO234 := n0_
                have HO238 := n1_
                have HO245 := n2_
                have BK240 := n5_
                have HB := n6_
                clear n0_ n1_ n2_ n5_ n6_
                clear hb ho24
                obtain ⟨Ao25, co25, eo25⟩ := Kd.R_slice HO245.out
                subst eo25
                obtain ⟨ado25, fo25, _⟩ := Kd.at_int (Kd.R_reads' HO245.out).2.2 0 (by decide) (by rw [Ny243.out]; simp)
                cases fo25
                refine hK.out _ _ ⟨.slice (some ado25) y243.length co25, ado25, v250, adz_v250, m4_, m9_, (by rw [ha.out]; exact putSel_upk 1 hb_ rfl rfl rfl), (by (with_reducible repeat (first | apply Kd.R_alloc | apply Kd.R_drewN | apply Kd.R_drew)); first | exact HO234.out | exact Kd.R_mono HO234.out (fun _ hk => hk.1)), (by (with_reducible repeat (first | apply Kd.R_alloc | apply Kd.R_drewN | apply Kd.R_drew)); first | exact HO238.out | exact Kd.R_mono HO238.out (fun _ hk => hk.1)), z_BK225, (by (with_reducible repeat (first | refine blk_drewN ?_ _ | refine blk_drew ?_ | refine blk_alloc ?_ _)); exact BK240.out), z_HI228, (by repeat (first | (with_reducible first | exact HB.out | apply below_alloc | apply pw_below_drewN | apply below_drew1 | refine below_set ?_ GE225.out | refine below_set ?_ GE240.out) | exact HB.out)), fun _ => (by (with_reducible repeat (first | apply Kd.R_alloc | apply Kd.R_drewN | apply Kd.R_drew)); exact Kd.R_mono HO245.out (fun _ hk => ⟨hk.1.2, hk.2⟩)), fun _ => ⟨_, rfl⟩, z_HI228_e3, z_HO251, Q_HA_HO251, z_HI228_e8, z_BK225_e11, fun h0_ => absurd ((hoff 4 (by kernel_rfl)).symm.trans h0_) (by decide), Q_X9_⟩
              refine steps_cons ?_ ?_
              · rintro b a w' ⟨v244, adz_v244, v250, adz_v250, m4_, m9_, ha, Q_HO234, Q_HO238, Q_BK225, Q_BK240, Q_HI228, Q_HB, Q_HO245, Q_HA_HO245, Q_HI228_e3, Q_HO251, Q_HA_HO251, Q_HI228_e8, Q_BK225_e11, Q_X4_, Q_X9_⟩ hb_ hon hoff
                refine ⟨_, rfl, fun K hK => ?_⟩
                have e16 : a.tmps[16]? = some (.pointer (some ⟨g228, 0, none⟩)) := by rw [ha]; exact (putSel_off rfl).trans rfl
                replace ha := Aside0.mk ha
                have HO234 := Aside0.mk Q_HO234
                have HO238 := Aside0.mk Q_HO238
                have BK225 := Aside0.mk (Q_BK225 (hoff 11 (by kernel_rfl)))
                have BK240 := Aside0.mk Q_BK240
                have HI228 := Aside0.mk (Q_HI228 hb_)
                have HB := Aside0.mk Q_HB
                refine goes_ Try.func65 (by kernel_rfl) rfl #[.pointer (some ⟨g228, 0, none⟩), .int .i64 3] (by rfl) rfl rfl (by first | (simp only [List.map_toArray, List.map_cons, List.map_nil, Act.eval, Array.getD_eq_getD_getElem?, Option.getD_some, e16]; done) | (simp only [List.map_toArray, List.map_cons, List.map_nil, Act.eval, Array.getD_eq_getD_getElem?, Option.getD_some, e16]; rfl)) ?_
                with_reducible refine (spec_l6Rd_pick.calls k g228 t226 t242 3 t246 t247 w _ ?side1 ?side2 A6.out).mono ?_
                (case side1 => repeat (first | (with_reducible first | exact HI228.out | apply IsS91.alloc | apply IsS91.drewN | apply IsS91.drew | apply IsS91.set_1 | refine IsS91.far ?_ NB228_225.out _ | refine IsS91.far ?_ NB228_240.out _) | exact HI228.out))
                (case side2 => repeat (first | (with_reducible first | exact HB.out | apply below_alloc | apply pw_below_drewN | apply below_drew1 | refine below_set ?_ (IsS91.ge HI228.out) | refine below_set ?_ GE225.out | refine below_set ?_ GE240.out) | exact HB.out))
                rintro e w23 ⟨rfl, hi, hb, hk⟩
                refine ⟨_, rfl, ?_⟩
                have n0_ := Aside0.mk (KeepBut.blk hk (g' := gb225) (o := .cells #[.int .i64 0, .int .i64 0, .bool false, .slice none 0 0, .bool false, .slice none 0 0] 27 (0, 0)) (by (with_reducible repeat (first | refine blk_drewN ?_ _ | refine blk_drew ?_ | refine blk_alloc ?_ _)); exact BK225.out) NB225_228.out (by simp))
                have n1_ := Aside0.mk (Kd.R_mono (Kd.R_keep (IsS91.apart (show IsS91 w _ g228 t226 t242 from by repeat (first | (with_reducible first | exact HI228.out | apply IsS91.alloc | apply IsS91.drewN | apply IsS91.drew | apply IsS91.set_1 | refine IsS91.far ?_ NB228_225.out _ | refine IsS91.far ?_ NB228_240.out _) | exact HI228.out)) (by (with_reducible repeat (first | apply Kd.R_alloc | apply Kd.R_drewN | apply Kd.R_drew)); exact HO234.out) (by decide)) hk (fun _ h => h.2)) (fun _ h => h.1))
                have n2_ := Aside0.mk (Kd.R_mono (Kd.R_keep (IsS91.apart (show IsS91 w _ g228 t226 t242 from by repeat (first | (with_reducible first | exact HI228.out | apply IsS91.alloc | apply IsS91.drewN | apply IsS91.drew | apply IsS91.set_1 | refine IsS91.far ?_ NB228_225.out _ | refine IsS91.far ?_ NB228_240.out _) | exact HI228.out)) (by (with_reducible repeat (first | apply Kd.R_alloc | apply Kd.R_drewN | apply Kd.R_drew)); exact HO238.out) (by decide)) hk (fun _ h => h.2)) (fun _ h => h.1))
                have n3_ := Aside0.mk (KeepBut.blk hk (g' := gb240) (o := .cells #[.int .i64 t229, .int .i64 t230, .bool t231, .slice Ao19 t232.length co19, .bool t235, .slice Ao20 t236.length co20] 27 (0, 0)) (by (with_reducible repeat (first | refine blk_drewN ?_ _ | refine blk_drew ?_ | refine blk_alloc ?_ _)); exact BK240.out) NB240_228.out (by simp))
                have n4_ := Aside0.mk (hb)
                have n5_ := Aside0.mk (hi)
                have z_HO245 := fun (h0_ : b 1 = true) => (show Kd.R (Kd.int .i64) 3 w23 w.heap.size (fun k_ => some k_ ≠ (.slice Ao19 t232.length co19 : Value).ownBlock ∧ some k_ ≠ (.slice Ao20 t236.length co20 : Value).ownBlock) v244 y243 from by first | exact (Kd.R_mono (Kd.R_keep (IsS91.apart (show IsS91 w _ g228 t226 t242 from by repeat (first | (with_reducible first | exact HI228.out | apply IsS91.alloc | apply IsS91.drewN | apply IsS91.drew | apply IsS91.set_1 | refine IsS91.far ?_ NB228_225.out _ | refine IsS91.far ?_ NB228_240.out _) | exact HI228.out)) (by (with_reducible repeat (first | apply Kd.R_alloc | apply Kd.R_drewN | apply Kd.R_drew)); exact (Q_HO245 h0_)) (by decide)) hk (fun _ h => h.2)) (fun _ h => h.1)) | exact Kd.R_mono (Kd.R_mono (Kd.R_keep (IsS91.apart (show IsS91 w _ g228 t226 t242 from by repeat (first | (with_reducible first | exact HI228.out | apply IsS91.alloc | apply IsS91.drewN | apply IsS91.drew | apply IsS91.set_1 | refine IsS91.far ?_ NB228_225.out _ | refine IsS91.far ?_ NB228_240.out _) | exact HI228.out)) (by (with_reducible repeat (first | apply Kd.R_alloc | apply Kd.R_drewN | apply Kd.R_drew)); exact (Q_HO245 h0_)) (by decide)) hk (fun _ h => h.2)) (fun _ h => h.1)) (fun _ h_ => by first | trivial | exact h_ | exact h_.1))
                have z_HO251 := fun (h0_ : b 6 = true) => (show Kd.R (Kd.int .i64) 3 w23 w.heap.size (fun k_ => some k_ ≠ (.slice Ao19 t232.length co19 : Value).ownBlock ∧ some k_ ≠ (.slice Ao20 t236.length co20 : Value).ownBlock) v250 y249 from by first | exact (Kd.R_mono (Kd.R_keep (IsS91.apart (show IsS91 w _ g228 t226 t242 from by repeat (first | (with_reducible first | exact HI228.out | apply IsS91.alloc | apply IsS91.drewN | apply IsS91.drew | apply IsS91.set_1 | refine IsS91.far ?_ NB228_225.out _ | refine IsS91.far ?_ NB228_240.out _) | exact HI228.out)) (by (with_reducible repeat (first | apply Kd.R_alloc | apply Kd.R_drewN | apply Kd.R_drew)); exact (Q_HO251 h0_)) (by decide)) hk (fun _ h => h.2)) (fun _ h => h.1)) | exact Kd.R_mono (Kd.R_mono (Kd.R_keep (IsS91.apart (show IsS91 w _ g228 t226 t242 from by repeat (first | (with_reducible first | exact HI228.out | apply IsS91.alloc | apply IsS91.drewN | apply IsS91.drew | apply IsS91.set_1 | refine IsS91.far ?_ NB228_225.out _ | refine IsS91.far ?_ NB228_240.out _) | exact HI228.out)) (by (with_reducible repeat (first | apply Kd.R_alloc | apply Kd.R_drewN | apply Kd.R_drew)); exact (Q_HO251 h0_)) (by decide)) hk (fun _ h => h.2)) (fun _ h => h.1)) (fun _ h_ => by first | trivial | exact h_ | exact h_.1))
                clear BK225
                clear HO234
                clear HO238
                clear BK240
                clear HB
                clear HI228
                have BK225 := n0_
                have HO234 := n1_
                have HO238 := n2_
                have BK240 := n3_
                have HB := n4_
                have HI228 := n5_
                clear n0_ n1_ n2_ n3_ n4_ n5_
                (try clear hb)
                (try clear hb2)
                (try clear hk)
                (try clear hi)
                refine hK.out _ _ ⟨v244, adz_v244, v250, adz_v250, m4_, m9_, (by rw [ha.out]; exact putSel_upk 2 hb_ rfl rfl rfl), (by (with_reducible repeat (first | apply Kd.R_alloc | apply Kd.R_drewN | apply Kd.R_drew)); first | exact HO234.out | exact Kd.R_mono HO234.out (fun _ hk => hk.1)), (by (with_reducible repeat (first | apply Kd.R_alloc | apply Kd.R_drewN | apply Kd.R_drew)); first | exact HO238.out | exact Kd.R_mono HO238.out (fun _ hk => hk.1)), fun _ => (by (with_reducible repeat (first | refine blk_drewN ?_ _ | refine blk_drew ?_ | refine blk_alloc ?_ _)); exact BK225.out), (by (with_reducible repeat (first | refine blk_drewN ?_ _ | refine blk_drew ?_ | refine blk_alloc ?_ _)); exact BK240.out), fun h0_ => absurd ((up_self b 3).symm.trans h0_) (by decide), (by repeat (first | (with_reducible first | exact HB.out | apply below_alloc | apply pw_below_drewN | apply below_drew1 | refine below_set ?_ (IsS91.ge HI228.out) | refine below_set ?_ GE225.out | refine below_set ?_ GE240.out) | exact HB.out)), z_HO245, Q_HA_HO245, fun _ _ => (by repeat (first | (with_reducible first | exact HI228.out | apply IsS91.alloc | apply IsS91.drewN | apply IsS91.drew | apply IsS91.set_1 | refine IsS91.far ?_ NB228_225.out _ | refine IsS91.far ?_ NB228_240.out _) | exact HI228.out)), z_HO251, Q_HA_HO251, fun h0_ => absurd ((hoff 8 (by kernel_rfl)).symm.trans h0_) (by decide), fun h0_ => absurd ((hoff 11 (by kernel_rfl)).symm.trans h0_) (by decide), fun h0_ => absurd ((hoff 4 (by kernel_rfl)).symm.trans h0_) (by decide), fun h0_ => absurd ((hoff 9 (by kernel_rfl)).symm.trans h0_) (by decide)⟩
              refine steps_cons ?_ ?_
              · rintro b a w' ⟨v244, adz_v244, v250, adz_v250, m4_, m9_, ha, Q_HO234, Q_HO238, Q_BK225, Q_BK240, Q_HI228, Q_HB, Q_HO245, Q_HA_HO245, Q_HI228_e3, Q_HO251, Q_HA_HO251, Q_HI228_e8, Q_BK225_e11, Q_X4_, Q_X9_⟩ hb_ hon hoff
                refine ⟨_, rfl, fun K hK => ?_⟩
                have e15 : a.tmps[15]? = some (v244) := by rw [ha]; exact putSel_on (e := (1, 15, v244)) 1 rfl rfl (hon 1 (by kernel_rfl)) rfl
                have e17 : a.tmps[17]? = some (.int .i64 t246) := by rw [ha]; exact putSel_on (e := (3, 17, .int .i64 t246)) 2 rfl rfl (hon 3 (by kernel_rfl)) rfl
                replace ha := Aside0.mk ha
                have HO234 := Aside0.mk Q_HO234
                have HO238 := Aside0.mk Q_HO238
                have BK240 := Aside0.mk Q_BK240
                have HB := Aside0.mk Q_HB
                have HO245 := Aside0.mk (Q_HO245 (hon 1 (by kernel_rfl)))
                have HA_HO245 := Aside0.mk (Q_HA_HO245 (hon 1 (by kernel_rfl)))
                obtain ⟨c_, hv_⟩ := HA_HO245.out
                rw [hv_] at e15
                refine value_ (w1 := w') (v := .pointer (some (adz_v244.add (t246).toNat))) (by rfl) rfl ?_ ?_
                · go_simp
                  (try simp only [i64_w])
                  try rfl
                refine hK.out _ _ ⟨v244, adz_v244, v250, adz_v250, (.pointer (some (adz_v244.add (t246).toNat))), m9_, (by rw [ha.out]; exact putSel_upk 3 hb_ rfl rfl rfl), Q_HO234, Q_HO238, Q_BK225, Q_BK240, fun h0_ => absurd ((hon 3 (by kernel_rfl)).symm.trans h0_) (by decide), Q_HB, Q_HO245, Q_HA_HO245, Q_HI228_e3, Q_HO251, Q_HA_HO251, Q_HI228_e8, Q_BK225_e11, fun _ => rfl, Q_X9_⟩
              refine steps_cons ?_ ?_
              · rintro b a w' ⟨v244, adz_v244, v250, adz_v250, m4_, m9_, ha, Q_HO234, Q_HO238, Q_BK225, Q_BK240, Q_HI228, Q_HB, Q_HO245, Q_HA_HO245, Q_HI228_e3, Q_HO251, Q_HA_HO251, Q_HI228_e8, Q_BK225_e11, Q_X4_, Q_X9_⟩ hb_ hon hoff
                refine ⟨_, rfl, fun K hK => ?_⟩
                have e18 : a.tmps[18]? = some (m4_) := by rw [ha]; exact putSel_on (e := (4, 18, m4_)) 3 rfl rfl (hon 4 (by kernel_rfl)) rfl
                rw [Q_X4_ (hon 4 (by kernel_rfl))] at e18
                replace ha := Aside0.mk ha
                have HO234 := Aside0.mk Q_HO234
                have HO238 := Aside0.mk Q_HO238
                have BK240 := Aside0.mk Q_BK240
                have HB := Aside0.mk Q_HB
                have HO245 := Aside0.mk (Q_HO245 (hon 1 (by kernel_rfl)))
                have HA_HO245 := Aside0.mk (Q_HA_HO245 (hon 1 (by kernel_rfl)))
                obtain ⟨c_, hv_⟩ := HA_HO245.out
                have hF_ := HO245.out
                rw [hv_] at hF_
                obtain ⟨ad_, ea_, hx_⟩ := Kd.at_int (Kd.R_reads' hF_).2.2 t246 (of_eq_true pi248) (of_eq_true qi248)
                cases ea_
                refine value_ (w1 := w') (v := .int .i64 (rd y243 t246)) (by rfl) rfl ?_ ?_
                · go_simp
                  (try simp only [i64_w])
                  try rfl
                refine hK.out _ _ ⟨v244, adz_v244, v250, adz_v250, m4_, m9_, (by rw [ha.out]; exact putSel_upk 4 hb_ rfl rfl rfl), Q_HO234, Q_HO238, Q_BK225, Q_BK240, fun h0_ => absurd ((hon 3 (by kernel_rfl)).symm.trans h0_) (by decide), Q_HB, Q_HO245, Q_HA_HO245, Q_HI228_e3, Q_HO251, Q_HA_HO251, Q_HI228_e8, Q_BK225_e11, Q_X4_, Q_X9_⟩
              refine steps_cons ?_ ?_
              · rintro b a w' ⟨v244, adz_v244, v250, adz_v250, m4_, m9_, ha, Q_HO234, Q_HO238, Q_BK225, Q_BK240, Q_HI228, Q_HB, Q_HO245, Q_HA_HO245, Q_HI228_e3, Q_HO251, Q_HA_HO251, Q_HI228_e8, Q_BK225_e11, Q_X4_, Q_X9_⟩ hb_ hon hoff
                refine ⟨_, rfl, fun K hK => ?_⟩
                replace ha := Aside0.mk ha
                have HO234 := Aside0.mk Q_HO234
                have HO238 := Aside0.mk Q_HO238
                have BK240 := Aside0.mk Q_BK240
                have HB := Aside0.mk Q_HB
                refine Kd.R_lit_step (Kd.int .i64) _ 3 ?hg (N := 20) ?hd (xs := ([(-1), 99999, 100000] : List Int)) (inner := [.int .i64 (-1), .int .i64 99999, .int .i64 100000]) (ok := fun _ => True) (okp := fun _ => True) ?hr ?hp (fun _ hk => hk) trivial (Below.refl _ _) (Nat.le_refl _) (by simp) ?_; (case hd => rfl); (case hg => rfl); (case hr => first | (go_simp; done) | (go_simp; rfl)); (case hp => exact (Reps.one (show Kd.M (Kd.int .i64) _ _ _ (-1) [.int .i64 (-1)] from rfl) (Reps.one (show Kd.M (Kd.int .i64) _ _ _ 99999 [.int .i64 99999] from rfl) (Reps.one (show Kd.M (Kd.int .i64) _ _ _ 100000 [.int .i64 100000] from rfl) (Reps.none _ _)))))
                intro v250 w23 ho24 hb hg_ hnew_
                clear hg_ hnew_
                (first | rw [← Ny249.out] at ho24 | (simp only [Int.reduceToNat] at ho24; rw [← Ny249.out] at ho24))
                have n0_ := Aside0.mk (Kd.R_elder' (by (with_reducible repeat (first | apply Kd.R_alloc | apply Kd.R_drewN | apply Kd.R_drew)); exact HO234.out) (Kd.R_base ho24) hb)
                have n1_ := Aside0.mk (Kd.R_elder' (by (with_reducible repeat (first | apply Kd.R_alloc | apply Kd.R_drewN | apply Kd.R_drew)); exact HO238.out) (Kd.R_base ho24) hb)
                have n2_ := Aside0.mk (Kd.R_lower (Kd.R_new' (Kd.R_new' ho24 (Kd.R_lt (by (with_reducible repeat (first | apply Kd.R_alloc | apply Kd.R_drewN | apply Kd.R_drew)); exact HO234.out))) (Kd.R_lt (by (with_reducible repeat (first | apply Kd.R_alloc | apply Kd.R_drewN | apply Kd.R_drew)); exact HO238.out))) (below_size (by repeat (first | (with_reducible first | exact HB.out | apply below_alloc | apply pw_below_drewN | apply below_drew1 | refine below_set ?_ GE225.out | refine below_set ?_ GE240.out) | exact HB.out))))
                have n5_ := Aside0.mk (blk_below (g := gb240) (o := .cells #[.int .i64 t229, .int .i64 t230, .bool t231, .slice Ao19 t232.length co19, .bool t235, .slice Ao20 t236.length co20] 27 (0, 0)) (by (with_reducible repeat (first | refine blk_drewN ?_ _ | refine blk_drew ?_ | refine blk_alloc ?_ _)); exact BK240.out) hb)
                have n6_ := Aside0.mk (below_step (by repeat (first | (with_reducible first | exact HB.out | apply below_alloc | apply pw_below_drewN | apply below_drew1 | refine below_set ?_ GE225.out | refine below_set ?_ GE240.out) | exact HB.out)) hb)
                have z_BK225 := fun (h0_ : b 11 = false) => (show w23.heap[gb225]? = some (.cells #[.int .i64 0, .int .i64 0, .bool false, .slice none 0 0, .bool false, .slice none 0 0] 27 (0, 0)) from by first | exact (blk_below (g := gb225) (o := .cells #[.int .i64 0, .int .i64 0, .bool false, .slice none 0 0, .bool false, .slice none 0 0] 27 (0, 0)) (by (with_reducible repeat (first | refine blk_drewN ?_ _ | refine blk_drew ?_ | refine blk_alloc ?_ _)); exact (Q_BK225 h0_)) hb))
                have z_HI228 := fun (h0_ : b 3 = false) => (show IsS91 w w23 g228 t226 t242 from by first | exact (IsS91.below (by repeat (first | (with_reducible first | exact (Q_HI228 h0_) | apply IsS91.alloc | apply IsS91.drewN | apply IsS91.drew | apply IsS91.set_1 | refine IsS91.far ?_ NB228_225.out _ | refine IsS91.far ?_ NB228_240.out _) | exact (Q_HI228 h0_))) hb))
                have z_HO245 := fun (h0_ : b 1 = true) => (show Kd.R (Kd.int .i64) 3 w23 w.heap.size (fun k_ => some k_ ≠ (.slice Ao19 t232.length co19 : Value).ownBlock ∧ some k_ ≠ (.slice Ao20 t236.length co20 : Value).ownBlock) v244 y243 from by first | exact (Kd.R_elder' (by (with_reducible repeat (first | apply Kd.R_alloc | apply Kd.R_drewN | apply Kd.R_drew)); exact (Q_HO245 h0_)) (Kd.R_base ho24) hb) | exact Kd.R_mono (Kd.R_elder' (by (with_reducible repeat (first | apply Kd.R_alloc | apply Kd.R_drewN | apply Kd.R_drew)); exact (Q_HO245 h0_)) (Kd.R_base ho24) hb) (fun _ h_ => by first | trivial | exact h_ | exact h_.1))
                have z_HI228_e3 := fun (h0_ : b 3 = true) (h1_ : b 8 = false) => (show IsS91 w w23 g228 t226 t247 from by first | exact (IsS91.below (by repeat (first | (with_reducible first | exact (Q_HI228_e3 h0_ h1_) | apply IsS91.alloc | apply IsS91.drewN | apply IsS91.drew | apply IsS91.set_1 | refine IsS91.far ?_ NB228_225.out _ | refine IsS91.far ?_ NB228_240.out _) | exact (Q_HI228_e3 h0_ h1_))) hb))
                have z_HI228_e8 := fun (h0_ : b 8 = true) => (show IsS91 w w23 g228 t226 t253 from by first | exact (IsS91.below (by repeat (first | (with_reducible first | exact (Q_HI228_e8 h0_) | apply IsS91.alloc | apply IsS91.drewN | apply IsS91.drew | apply IsS91.set_1 | refine IsS91.far ?_ NB228_225.out _ | refine IsS91.far ?_ NB228_240.out _) | exact (Q_HI228_e8 h0_))) hb))
                have z_BK225_e11 := fun (h0_ : b 11 = true) => (show w23.heap[gb225]? = some (.cells #[.int .i64 t229, .int .i64 t230, .bool t231, .slice Ao19 t232.length co19, .bool t235, .slice Ao20 t236.length co20] 27 (0, 0)) from by first | exact (blk_below (g := gb225) (o := .cells #[.int .i64 t229, .int .i64 t230, .bool t231, .slice Ao19 t232.length co19, .bool t235, .slice Ao20 t236.length co20] 27 (0, 0)) (by (with_reducible repeat (first | refine blk_drewN ?_ _ | refine blk_drew ?_ | refine blk_alloc ?_ _)); exact (Q_BK225_e11 h0_)) hb))
                clear HO234
                clear HO238
                clear BK240
                clear HB
                have HO234 := n0_
                have HO238 := n1_
                have HO251 := n2_
                have BK240 := n5_
                have HB := n6_
                clear n0_ n1_ n2_ n5_ n6_
                clear hb ho24
                obtain ⟨Ao25, co25, eo25⟩ := Kd.R_slice HO251.out
                subst eo25
                obtain ⟨ado25, fo25, _⟩ := Kd.at_int (Kd.R_reads' HO251.out).2.2 0 (by decide) (by rw [Ny249.out]; simp)
                cases fo25
                refine hK.out _ _ ⟨v244, adz_v244, .slice (some ado25) y249.length co25, ado25, m4_, m9_, (by rw [ha.out]; exact putSel_upk 5 hb_ rfl rfl rfl), (by (with_reducible repeat (first | apply Kd.R_alloc | apply Kd.R_drewN | apply Kd.R_drew)); first | exact HO234.out | exact Kd.R_mono HO234.out (fun _ hk => hk.1)), (by (with_reducible repeat (first | apply Kd.R_alloc | apply Kd.R_drewN | apply Kd.R_drew)); first | exact HO238.out | exact Kd.R_mono HO238.out (fun _ hk => hk.1)), z_BK225, (by (with_reducible repeat (first | refine blk_drewN ?_ _ | refine blk_drew ?_ | refine blk_alloc ?_ _)); exact BK240.out), z_HI228, (by repeat (first | (with_reducible first | exact HB.out | apply below_alloc | apply pw_below_drewN | apply below_drew1 | refine below_set ?_ GE225.out | refine below_set ?_ GE240.out) | exact HB.out)), z_HO245, Q_HA_HO245, z_HI228_e3, fun _ => (by (with_reducible repeat (first | apply Kd.R_alloc | apply Kd.R_drewN | apply Kd.R_drew)); exact Kd.R_mono HO251.out (fun _ hk => ⟨hk.1.2, hk.2⟩)), fun _ => ⟨_, rfl⟩, z_HI228_e8, z_BK225_e11, Q_X4_, fun h0_ => absurd ((hoff 9 (by kernel_rfl)).symm.trans h0_) (by decide)⟩
              refine steps_cons ?_ ?_
              · rintro b a w' ⟨v244, adz_v244, v250, adz_v250, m4_, m9_, ha, Q_HO234, Q_HO238, Q_BK225, Q_BK240, Q_HI228, Q_HB, Q_HO245, Q_HA_HO245, Q_HI228_e3, Q_HO251, Q_HA_HO251, Q_HI228_e8, Q_BK225_e11, Q_X4_, Q_X9_⟩ hb_ hon hoff
                refine ⟨_, rfl, fun K hK => ?_⟩
                have e21 : a.tmps[21]? = some (.pointer (some ⟨g228, 0, none⟩)) := by rw [ha]; exact (putSel_off rfl).trans rfl
                replace ha := Aside0.mk ha
                have HO234 := Aside0.mk Q_HO234
                have HO238 := Aside0.mk Q_HO238
                have BK225 := Aside0.mk (Q_BK225 (hoff 11 (by kernel_rfl)))
                have BK240 := Aside0.mk Q_BK240
                have HB := Aside0.mk Q_HB
                have HI228 := Aside0.mk (Q_HI228_e3 (hon 3 (by kernel_rfl)) hb_)
                refine goes_ Try.func65 (by kernel_rfl) rfl #[.pointer (some ⟨g228, 0, none⟩), .int .i64 3] (by rfl) rfl rfl (by first | (simp only [List.map_toArray, List.map_cons, List.map_nil, Act.eval, Array.getD_eq_getD_getElem?, Option.getD_some, e21]; done) | (simp only [List.map_toArray, List.map_cons, List.map_nil, Act.eval, Array.getD_eq_getD_getElem?, Option.getD_some, e21]; rfl)) ?_
                with_reducible refine (spec_l6Rd_pick.calls k g228 t226 t247 3 t252 t253 w _ ?side1 ?side2 A9.out).mono ?_
                (case side1 => repeat (first | (with_reducible first | exact HI228.out | apply IsS91.alloc | apply IsS91.drewN | apply IsS91.drew | apply IsS91.set_1 | refine IsS91.far ?_ NB228_225.out _ | refine IsS91.far ?_ NB228_240.out _) | exact HI228.out))
                (case side2 => repeat (first | (with_reducible first | exact HB.out | apply below_alloc | apply pw_below_drewN | apply below_drew1 | refine below_set ?_ (IsS91.ge HI228.out) | refine below_set ?_ GE225.out | refine below_set ?_ GE240.out) | exact HB.out))
                rintro e w25 ⟨rfl, hi, hb, hk⟩
                refine ⟨_, rfl, ?_⟩
                have n0_ := Aside0.mk (KeepBut.blk hk (g' := gb225) (o := .cells #[.int .i64 0, .int .i64 0, .bool false, .slice none 0 0, .bool false, .slice none 0 0] 27 (0, 0)) (by (with_reducible repeat (first | refine blk_drewN ?_ _ | refine blk_drew ?_ | refine blk_alloc ?_ _)); exact BK225.out) NB225_228.out (by simp))
                have n1_ := Aside0.mk (Kd.R_mono (Kd.R_keep (IsS91.apart (show IsS91 w _ g228 t226 t247 from by repeat (first | (with_reducible first | exact HI228.out | apply IsS91.alloc | apply IsS91.drewN | apply IsS91.drew | apply IsS91.set_1 | refine IsS91.far ?_ NB228_225.out _ | refine IsS91.far ?_ NB228_240.out _) | exact HI228.out)) (by (with_reducible repeat (first | apply Kd.R_alloc | apply Kd.R_drewN | apply Kd.R_drew)); exact HO234.out) (by decide)) hk (fun _ h => h.2)) (fun _ h => h.1))
                have n2_ := Aside0.mk (Kd.R_mono (Kd.R_keep (IsS91.apart (show IsS91 w _ g228 t226 t247 from by repeat (first | (with_reducible first | exact HI228.out | apply IsS91.alloc | apply IsS91.drewN | apply IsS91.drew | apply IsS91.set_1 | refine IsS91.far ?_ NB228_225.out _ | refine IsS91.far ?_ NB228_240.out _) | exact HI228.out)) (by (with_reducible repeat (first | apply Kd.R_alloc | apply Kd.R_drewN | apply Kd.R_drew)); exact HO238.out) (by decide)) hk (fun _ h => h.2)) (fun _ h => h.1))
                have n3_ := Aside0.mk (KeepBut.blk hk (g' := gb240) (o := .cells #[.int .i64 t229, .int .i64 t230, .bool t231, .slice Ao19 t232.length co19, .bool t235, .slice Ao20 t236.length co20] 27 (0, 0)) (by (with_reducible repeat (first | refine blk_drewN ?_ _ | refine blk_drew ?_ | refine blk_alloc ?_ _)); exact BK240.out) NB240_228.out (by simp))
                have n4_ := Aside0.mk (hb)
                have n5_ := Aside0.mk (hi)
                have z_HO245 := fun (h0_ : b 1 = true) => (show Kd.R (Kd.int .i64) 3 w25 w.heap.size (fun k_ => some k_ ≠ (.slice Ao19 t232.length co19 : Value).ownBlock ∧ some k_ ≠ (.slice Ao20 t236.length co20 : Value).ownBlock) v244 y243 from by first | exact (Kd.R_mono (Kd.R_keep (IsS91.apart (show IsS91 w _ g228 t226 t247 from by repeat (first | (with_reducible first | exact HI228.out | apply IsS91.alloc | apply IsS91.drewN | apply IsS91.drew | apply IsS91.set_1 | refine IsS91.far ?_ NB228_225.out _ | refine IsS91.far ?_ NB228_240.out _) | exact HI228.out)) (by (with_reducible repeat (first | apply Kd.R_alloc | apply Kd.R_drewN | apply Kd.R_drew)); exact (Q_HO245 h0_)) (by decide)) hk (fun _ h => h.2)) (fun _ h => h.1)) | exact Kd.R_mono (Kd.R_mono (Kd.R_keep (IsS91.apart (show IsS91 w _ g228 t226 t247 from by repeat (first | (with_reducible first | exact HI228.out | apply IsS91.alloc | apply IsS91.drewN | apply IsS91.drew | apply IsS91.set_1 | refine IsS91.far ?_ NB228_225.out _ | refine IsS91.far ?_ NB228_240.out _) | exact HI228.out)) (by (with_reducible repeat (first | apply Kd.R_alloc | apply Kd.R_drewN | apply Kd.R_drew)); exact (Q_HO245 h0_)) (by decide)) hk (fun _ h => h.2)) (fun _ h => h.1)) (fun _ h_ => by first | trivial | exact h_ | exact h_.1))
                have z_HO251 := fun (h0_ : b 6 = true) => (show Kd.R (Kd.int .i64) 3 w25 w.heap.size (fun k_ => some k_ ≠ (.slice Ao19 t232.length co19 : Value).ownBlock ∧ some k_ ≠ (.slice Ao20 t236.length co20 : Value).ownBlock) v250 y249 from by first | exact (Kd.R_mono (Kd.R_keep (IsS91.apart (show IsS91 w _ g228 t226 t247 from by repeat (first | (with_reducible first | exact HI228.out | apply IsS91.alloc | apply IsS91.drewN | apply IsS91.drew | apply IsS91.set_1 | refine IsS91.far ?_ NB228_225.out _ | refine IsS91.far ?_ NB228_240.out _) | exact HI228.out)) (by (with_reducible repeat (first | apply Kd.R_alloc | apply Kd.R_drewN | apply Kd.R_drew)); exact (Q_HO251 h0_)) (by decide)) hk (fun _ h => h.2)) (fun _ h => h.1)) | exact Kd.R_mono (Kd.R_mono (Kd.R_keep (IsS91.apart (show IsS91 w _ g228 t226 t247 from by repeat (first | (with_reducible first | exact HI228.out | apply IsS91.alloc | apply IsS91.drewN | apply IsS91.drew | apply IsS91.set_1 | refine IsS91.far ?_ NB228_225.out _ | refine IsS91.far ?_ NB228_240.out _) | exact HI228.out)) (by (with_reducible repeat (first | apply Kd.R_alloc | apply Kd.R_drewN | apply Kd.R_drew)); exact (Q_HO251 h0_)) (by decide)) hk (fun _ h => h.2)) (fun _ h => h.1)) (fun _ h_ => by first | trivial | exact h_ | exact h_.1))
                clear BK225
                clear HO234
                clear HO238
                clear BK240
                clear HB
                clear HI228
                have BK225 := n0_
                have HO234 := n1_
                have HO238 := n2_
                have BK240 := n3_
                have HB := n4_
                have HI228 := n5_
                clear n0_ n1_ n2_ n3_ n4_ n5_
                (try clear hb)
                (try clear hb2)
                (try clear hk)
                (try clear hi)
                refine hK.out _ _ ⟨v244, adz_v244, v250, adz_v250, m4_, m9_, (by rw [ha.out]; exact putSel_upk 6 hb_ rfl rfl rfl), (by (with_reducible repeat (first | apply Kd.R_alloc | apply Kd.R_drewN | apply Kd.R_drew)); first | exact HO234.out | exact Kd.R_mono HO234.out (fun _ hk => hk.1)), (by (with_reducible repeat (first | apply Kd.R_alloc | apply Kd.R_drewN | apply Kd.R_drew)); first | exact HO238.out | exact Kd.R_mono HO238.out (fun _ hk => hk.1)), fun _ => (by (with_reducible repeat (first | refine blk_drewN ?_ _ | refine blk_drew ?_ | refine blk_alloc ?_ _)); exact BK225.out), (by (with_reducible repeat (first | refine blk_drewN ?_ _ | refine blk_drew ?_ | refine blk_alloc ?_ _)); exact BK240.out), fun h0_ => absurd ((hon 3 (by kernel_rfl)).symm.trans h0_) (by decide), (by repeat (first | (with_reducible first | exact HB.out | apply below_alloc | apply pw_below_drewN | apply below_drew1 | refine below_set ?_ (IsS91.ge HI228.out) | refine below_set ?_ GE225.out | refine below_set ?_ GE240.out) | exact HB.out)), z_HO245, Q_HA_HO245, fun _ h1_ => absurd ((up_self b 8).symm.trans h1_) (by decide), z_HO251, Q_HA_HO251, fun _ => (by repeat (first | (with_reducible first | exact HI228.out | apply IsS91.alloc | apply IsS91.drewN | apply IsS91.drew | apply IsS91.set_1 | refine IsS91.far ?_ NB228_225.out _ | refine IsS91.far ?_ NB228_240.out _) | exact HI228.out)), fun h0_ => absurd ((hoff 11 (by kernel_rfl)).symm.trans h0_) (by decide), Q_X4_, fun h0_ => absurd ((hoff 9 (by kernel_rfl)).symm.trans h0_) (by decide)⟩
              refine steps_cons ?_ ?_
              · rintro b a w' ⟨v244, adz_v244, v250, adz_v250, m4_, m9_, ha, Q_HO234, Q_HO238, Q_BK225, Q_BK240, Q_HI228, Q_HB, Q_HO245, Q_HA_HO245, Q_HI228_e3, Q_HO251, Q_HA_HO251, Q_HI228_e8, Q_BK225_e11, Q_X4_, Q_X9_⟩ hb_ hon hoff
                refine ⟨_, rfl, fun K hK => ?_⟩
                have e20 : a.tmps[20]? = some (v250) := by rw [ha]; exact putSel_on (e := (6, 20, v250)) 5 rfl rfl (hon 6 (by kernel_rfl)) rfl
                have e22 : a.tmps[22]? = some (.int .i64 t252) := by rw [ha]; exact putSel_on (e := (8, 22, .int .i64 t252)) 6 rfl rfl (hon 8 (by kernel_rfl)) rfl
                replace ha := Aside0.mk ha
                have HO234 := Aside0.mk Q_HO234
                have HO238 := Aside0.mk Q_HO238
                have BK240 := Aside0.mk Q_BK240
                have HB := Aside0.mk Q_HB
                have HO251 := Aside0.mk (Q_HO251 (hon 6 (by kernel_rfl)))
                have HA_HO251 := Aside0.mk (Q_HA_HO251 (hon 6 (by kernel_rfl)))
                have HI228 := Aside0.mk (Q_HI228_e8 (hon 8 (by kernel_rfl)))
                obtain ⟨c_, hv_⟩ := HA_HO251.out
                rw [hv_] at e20
                refine value_ (w1 := w') (v := .pointer (some (adz_v250.add (t252).toNat))) (by rfl) rfl ?_ ?_
                · go_simp
                  (try simp only [i64_w])
                  try rfl
                refine hK.out _ _ ⟨v244, adz_v244, v250, adz_v250, m4_, (.pointer (some (adz_v250.add (t252).toNat))), (by rw [ha.out]; exact putSel_upk 7 hb_ rfl rfl rfl), Q_HO234, Q_HO238, Q_BK225, Q_BK240, fun h0_ => absurd ((hon 3 (by kernel_rfl)).symm.trans h0_) (by decide), Q_HB, Q_HO245, Q_HA_HO245, fun _ h1_ => absurd ((hon 8 (by kernel_rfl)).symm.trans h1_) (by decide), Q_HO251, Q_HA_HO251, Q_HI228_e8, Q_BK225_e11, Q_X4_, fun _ => rfl⟩
              refine steps_cons ?_ ?_
              · rintro b a w' ⟨v244, adz_v244, v250, adz_v250, m4_, m9_, ha, Q_HO234, Q_HO238, Q_BK225, Q_BK240, Q_HI228, Q_HB, Q_HO245, Q_HA_HO245, Q_HI228_e3, Q_HO251, Q_HA_HO251, Q_HI228_e8, Q_BK225_e11, Q_X4_, Q_X9_⟩ hb_ hon hoff
                refine ⟨_, rfl, fun K hK => ?_⟩
                have e23 : a.tmps[23]? = some (m9_) := by rw [ha]; exact putSel_on (e := (9, 23, m9_)) 7 rfl rfl (hon 9 (by kernel_rfl)) rfl
                rw [Q_X9_ (hon 9 (by kernel_rfl))] at e23
                replace ha := Aside0.mk ha
                have HO234 := Aside0.mk Q_HO234
                have HO238 := Aside0.mk Q_HO238
                have BK240 := Aside0.mk Q_BK240
                have HB := Aside0.mk Q_HB
                have HO251 := Aside0.mk (Q_HO251 (hon 6 (by kernel_rfl)))
                have HA_HO251 := Aside0.mk (Q_HA_HO251 (hon 6 (by kernel_rfl)))
                have HI228 := Aside0.mk (Q_HI228_e8 (hon 8 (by kernel_rfl)))
                obtain ⟨c_, hv_⟩ := HA_HO251.out
                have hF_ := HO251.out
                rw [hv_] at hF_
                obtain ⟨ad_, ea_, hx_⟩ := Kd.at_int (Kd.R_reads' hF_).2.2 t252 (of_eq_true pi254) (of_eq_true qi254)
                cases ea_
                refine value_ (w1 := w') (v := .int .i64 (rd y249 t252)) (by rfl) rfl ?_ ?_
                · go_simp
                  (try simp only [i64_w])
                  try rfl
                refine hK.out _ _ ⟨v244, adz_v244, v250, adz_v250, m4_, m9_, (by rw [ha.out]; exact putSel_upk 8 hb_ rfl rfl rfl), Q_HO234, Q_HO238, Q_BK225, Q_BK240, fun h0_ => absurd ((hon 3 (by kernel_rfl)).symm.trans h0_) (by decide), Q_HB, Q_HO245, Q_HA_HO245, fun _ h1_ => absurd ((hon 8 (by kernel_rfl)).symm.trans h1_) (by decide), Q_HO251, Q_HA_HO251, Q_HI228_e8, Q_BK225_e11, Q_X4_, Q_X9_⟩
              refine steps_cons ?_ ?_
              · rintro b a w' ⟨v244, adz_v244, v250, adz_v250, m4_, m9_, ha, Q_HO234, Q_HO238, Q_BK225, Q_BK240, Q_HI228, Q_HB, Q_HO245, Q_HA_HO245, Q_HI228_e3, Q_HO251, Q_HA_HO251, Q_HI228_e8, Q_BK225_e11, Q_X4_, Q_X9_⟩ hb_ hon hoff
                refine ⟨_, rfl, fun K hK => ?_⟩
                have e2 : a.tmps[2]? = some (.pointer (some ⟨gb225, 0, none⟩)) := by rw [ha]; exact (putSel_off rfl).trans rfl
                have e14 : a.tmps[14]? = some (.agg #[.int .i64 t229, .int .i64 t230, .bool t231, .slice Ao19 t232.length co19, .bool t235, .slice Ao20 t236.length co20]) := by rw [ha]; exact putSel_on (e := (0, 14, .agg #[.int .i64 t229, .int .i64 t230, .bool t231, .slice Ao19 t232.length co19, .bool t235, .slice Ao20 t236.length co20])) 0 rfl rfl (hon 0 (by kernel_rfl)) rfl
                replace ha := Aside0.mk ha
                have HO234 := Aside0.mk Q_HO234
                have HO238 := Aside0.mk Q_HO238
                have BK225 := Aside0.mk (Q_BK225 hb_)
                have BK240 := Aside0.mk Q_BK240
                have HB := Aside0.mk Q_HB
                have HI228 := Aside0.mk (Q_HI228_e8 (hon 8 (by kernel_rfl)))
                have hs26 : w'.cell? ⟨gb225, 0, none⟩ = some (.int .i64 0) := (blk_cell BK225.out 0).trans rfl
                have hfs26 := blk_frozen BK225.out 0
                have hns26_1 := NB240_225.out
                have hms26_1 := NB225_240.out
                have hs27 : w'.cell? ⟨gb225, 1, none⟩ = some (.int .i64 0) := (blk_cell BK225.out 1).trans rfl
                have hfs27 := blk_frozen BK225.out 1
                have hns27_1 := NB240_225.out
                have hms27_1 := NB225_240.out
                have hs28 : w'.cell? ⟨gb225, 2, none⟩ = some (.bool false) := (blk_cell BK225.out 2).trans rfl
                have hfs28 := blk_frozen BK225.out 2
                have hns28_1 := NB240_225.out
                have hms28_1 := NB225_240.out
                have hs29 : w'.cell? ⟨gb225, 3, none⟩ = some (.slice none 0 0) := (blk_cell BK225.out 3).trans rfl
                have hfs29 := blk_frozen BK225.out 3
                have hns29_1 := NB240_225.out
                have hms29_1 := NB225_240.out
                have hs30 : w'.cell? ⟨gb225, 4, none⟩ = some (.bool false) := (blk_cell BK225.out 4).trans rfl
                have hfs30 := blk_frozen BK225.out 4
                have hns30_1 := NB240_225.out
                have hms30_1 := NB225_240.out
                have hs31 : w'.cell? ⟨gb225, 5, none⟩ = some (.slice none 0 0) := (blk_cell BK225.out 5).trans rfl
                have hfs31 := blk_frozen BK225.out 5
                have hns31_1 := NB240_225.out
                have hms31_1 := NB225_240.out
                refine skip_ (w1 := ?_) (by rfl) rfl ?_ ?_
                rotate_left
                · go_simp
                  rfl
                refine hK.out _ _ ⟨v244, adz_v244, v250, adz_v250, m4_, m9_, (by rw [ha.out]; exact putSel_none (v := undef) rfl), (by (with_reducible repeat (first | apply Kd.R_alloc | apply Kd.R_drewN | apply Kd.R_drew)); exact Kd.R_mono (Kd.R_far (p := ⟨gb225, 5, none⟩) (Kd.R_far (p := ⟨gb225, 4, none⟩) (Kd.R_far (p := ⟨gb225, 3, none⟩) (Kd.R_far (p := ⟨gb225, 2, none⟩) (Kd.R_far (p := ⟨gb225, 1, none⟩) (Kd.R_far (p := ⟨gb225, 0, none⟩) (Kd.R_types HO234.out BK225.out (by decide)) (fun _ hk => hk.2) (.int .i64 t229)) (fun _ hk => hk.2) (.int .i64 t230)) (fun _ hk => hk.2) (.bool t231)) (fun _ hk => hk.2) (.slice Ao19 t232.length co19)) (fun _ hk => hk.2) (.bool t235)) (fun _ hk => hk.2) (.slice Ao20 t236.length co20)) (fun _ hk => hk.1)), (by (with_reducible repeat (first | apply Kd.R_alloc | apply Kd.R_drewN | apply Kd.R_drew)); exact Kd.R_mono (Kd.R_far (p := ⟨gb225, 5, none⟩) (Kd.R_far (p := ⟨gb225, 4, none⟩) (Kd.R_far (p := ⟨gb225, 3, none⟩) (Kd.R_far (p := ⟨gb225, 2, none⟩) (Kd.R_far (p := ⟨gb225, 1, none⟩) (Kd.R_far (p := ⟨gb225, 0, none⟩) (Kd.R_types HO238.out BK225.out (by decide)) (fun _ hk => hk.2) (.int .i64 t229)) (fun _ hk => hk.2) (.int .i64 t230)) (fun _ hk => hk.2) (.bool t231)) (fun _ hk => hk.2) (.slice Ao19 t232.length co19)) (fun _ hk => hk.2) (.bool t235)) (fun _ hk => hk.2) (.slice Ao20 t236.length co20)) (fun _ hk => hk.1)), fun h0_ => absurd ((up_self b 11).symm.trans h0_) (by decide), (by (with_reducible repeat (first | refine blk_drewN ?_ _ | refine blk_drew ?_ | refine blk_alloc ?_ _)); refine blk_far ?_ NB240_225.out _; (with_reducible repeat (first | refine blk_drewN ?_ _ | refine blk_drew ?_ | refine blk_alloc ?_ _)); refine blk_far ?_ NB240_225.out _; (with_reducible repeat (first | refine blk_drewN ?_ _ | refine blk_drew ?_ | refine blk_alloc ?_ _)); refine blk_far ?_ NB240_225.out _; (with_reducible repeat (first | refine blk_drewN ?_ _ | refine blk_drew ?_ | refine blk_alloc ?_ _)); refine blk_far ?_ NB240_225.out _; (with_reducible repeat (first | refine blk_drewN ?_ _ | refine blk_drew ?_ | refine blk_alloc ?_ _)); refine blk_far ?_ NB240_225.out _; (with_reducible repeat (first | refine blk_drewN ?_ _ | refine blk_drew ?_ | refine blk_alloc ?_ _)); refine blk_far ?_ NB240_225.out _; (with_reducible repeat (first | refine blk_drewN ?_ _ | refine blk_drew ?_ | refine blk_alloc ?_ _)); exact BK240.out), fun h0_ => absurd ((hon 3 (by kernel_rfl)).symm.trans h0_) (by decide), (by repeat (first | (with_reducible first | exact HB.out | apply below_alloc | apply pw_below_drewN | apply below_drew1 | refine below_set ?_ (IsS91.ge HI228.out) | refine below_set ?_ GE225.out | refine below_set ?_ GE240.out) | exact HB.out)), fun h0_ => (by (with_reducible repeat (first | apply Kd.R_alloc | apply Kd.R_drewN | apply Kd.R_drew)); exact Kd.R_mono (Kd.R_far (p := ⟨gb225, 5, none⟩) (Kd.R_far (p := ⟨gb225, 4, none⟩) (Kd.R_far (p := ⟨gb225, 3, none⟩) (Kd.R_far (p := ⟨gb225, 2, none⟩) (Kd.R_far (p := ⟨gb225, 1, none⟩) (Kd.R_far (p := ⟨gb225, 0, none⟩) (Kd.R_types (Q_HO245 h0_) BK225.out (by decide)) (fun _ hk => hk.2) (.int .i64 t229)) (fun _ hk => hk.2) (.int .i64 t230)) (fun _ hk => hk.2) (.bool t231)) (fun _ hk => hk.2) (.slice Ao19 t232.length co19)) (fun _ hk => hk.2) (.bool t235)) (fun _ hk => hk.2) (.slice Ao20 t236.length co20)) (fun _ hk => ⟨hk.1.1, hk.1.2⟩)), Q_HA_HO245, fun _ h1_ => absurd ((hon 8 (by kernel_rfl)).symm.trans h1_) (by decide), fun h0_ => (by (with_reducible repeat (first | apply Kd.R_alloc | apply Kd.R_drewN | apply Kd.R_drew)); exact Kd.R_mono (Kd.R_far (p := ⟨gb225, 5, none⟩) (Kd.R_far (p := ⟨gb225, 4, none⟩) (Kd.R_far (p := ⟨gb225, 3, none⟩) (Kd.R_far (p := ⟨gb225, 2, none⟩) (Kd.R_far (p := ⟨gb225, 1, none⟩) (Kd.R_far (p := ⟨gb225, 0, none⟩) (Kd.R_types (Q_HO251 h0_) BK225.out (by decide)) (fun _ hk => hk.2) (.int .i64 t229)) (fun _ hk => hk.2) (.int .i64 t230)) (fun _ hk => hk.2) (.bool t231)) (fun _ hk => hk.2) (.slice Ao19 t232.length co19)) (fun _ hk => hk.2) (.bool t235)) (fun _ hk => hk.2) (.slice Ao20 t236.length co20)) (fun _ hk => ⟨hk.1.1, hk.1.2⟩)), Q_HA_HO251, fun _ => (by repeat (first | (with_reducible first | exact HI228.out | apply IsS91.alloc | apply IsS91.drewN | apply IsS91.drew | apply IsS91.set_1 | refine IsS91.far ?_ NB228_225.out _ | refine IsS91.far ?_ NB228_240.out _) | exact HI228.out)), fun _ => (by (with_reducible repeat (first | refine blk_drewN ?_ _ | refine blk_drew ?_ | refine blk_alloc ?_ _)); refine blk_put (cs := #[.int .i64 t229, .int .i64 t230, .bool t231, .slice Ao19 t232.length co19, .bool t235, .slice none 0 0]) ?_ 5 _ rfl; (with_reducible repeat (first | refine blk_drewN ?_ _ | refine blk_drew ?_ | refine blk_alloc ?_ _)); refine blk_put (cs := #[.int .i64 t229, .int .i64 t230, .bool t231, .slice Ao19 t232.length co19, .bool false, .slice none 0 0]) ?_ 4 _ rfl; (with_reducible repeat (first | refine blk_drewN ?_ _ | refine blk_drew ?_ | refine blk_alloc ?_ _)); refine blk_put (cs := #[.int .i64 t229, .int .i64 t230, .bool t231, .slice none 0 0, .bool false, .slice none 0 0]) ?_ 3 _ rfl; (with_reducible repeat (first | refine blk_drewN ?_ _ | refine blk_drew ?_ | refine blk_alloc ?_ _)); refine blk_put (cs := #[.int .i64 t229, .int .i64 t230, .bool false, .slice none 0 0, .bool false, .slice none 0 0]) ?_ 2 _ rfl; (with_reducible repeat (first | refine blk_drewN ?_ _ | refine blk_drew ?_ | refine blk_alloc ?_ _)); refine blk_put (cs := #[.int .i64 t229, .int .i64 0, .bool false, .slice none 0 0, .bool false, .slice none 0 0]) ?_ 1 _ rfl; (with_reducible repeat (first | refine blk_drewN ?_ _ | refine blk_drew ?_ | refine blk_alloc ?_ _)); refine blk_put (cs := #[.int .i64 0, .int .i64 0, .bool false, .slice none 0 0, .bool false, .slice none 0 0]) ?_ 0 _ rfl; (with_reducible repeat (first | refine blk_drewN ?_ _ | refine blk_drew ?_ | refine blk_alloc ?_ _)); exact BK225.out), Q_X4_, Q_X9_⟩
              refine steps_cons ?_ ?_
              · rintro b a w' ⟨v244, adz_v244, v250, adz_v250, m4_, m9_, ha, Q_HO234, Q_HO238, Q_BK225, Q_BK240, Q_HI228, Q_HB, Q_HO245, Q_HA_HO245, Q_HI228_e3, Q_HO251, Q_HA_HO251, Q_HI228_e8, Q_BK225_e11, Q_X4_, Q_X9_⟩ hb_ hon hoff
                refine ⟨_, rfl, fun K hK => ?_⟩
                have e19 : a.tmps[19]? = some (.int .i64 (rd y243 t246)) := by rw [ha]; exact putSel_on (e := (5, 19, .int .i64 (rd y243 t246))) 4 rfl rfl (hon 5 (by kernel_rfl)) rfl
                replace ha := Aside0.mk ha
                have HO234 := Aside0.mk Q_HO234
                have HO238 := Aside0.mk Q_HO238
                have BK240 := Aside0.mk Q_BK240
                have HB := Aside0.mk Q_HB
                have HO245 := Aside0.mk (Q_HO245 (hon 1 (by kernel_rfl)))
                have HA_HO245 := Aside0.mk (Q_HA_HO245 (hon 1 (by kernel_rfl)))
                have HI228 := Aside0.mk (Q_HI228_e8 (hon 8 (by kernel_rfl)))
                have BK225 := Aside0.mk (Q_BK225_e11 (hon 11 (by kernel_rfl)))
                refine value_ (w1 := w') (v := .int .i64 (rd y243 t246)) (by rfl) rfl ?_ ?_
                · go_simp
                  (try simp only [i64_w])
                  try rfl
                refine hK.out _ _ ⟨v244, adz_v244, v250, adz_v250, m4_, m9_, (by rw [ha.out]; exact putSel_upk 9 hb_ rfl rfl rfl), Q_HO234, Q_HO238, fun h0_ => absurd ((hon 11 (by kernel_rfl)).symm.trans h0_) (by decide), Q_BK240, fun h0_ => absurd ((hon 3 (by kernel_rfl)).symm.trans h0_) (by decide), Q_HB, Q_HO245, Q_HA_HO245, fun _ h1_ => absurd ((hon 8 (by kernel_rfl)).symm.trans h1_) (by decide), Q_HO251, Q_HA_HO251, Q_HI228_e8, Q_BK225_e11, Q_X4_, Q_X9_⟩
              refine steps_cons ?_ ?_
              · rintro b a w' ⟨v244, adz_v244, v250, adz_v250, m4_, m9_, ha, Q_HO234, Q_HO238, Q_BK225, Q_BK240, Q_HI228, Q_HB, Q_HO245, Q_HA_HO245, Q_HI228_e3, Q_HO251, Q_HA_HO251, Q_HI228_e8, Q_BK225_e11, Q_X4_, Q_X9_⟩ hb_ hon hoff
                refine ⟨_, rfl, fun K hK => ?_⟩
                have e24 : a.tmps[24]? = some (.int .i64 (rd y249 t252)) := by rw [ha]; exact putSel_on (e := (10, 24, .int .i64 (rd y249 t252))) 8 rfl rfl (hon 10 (by kernel_rfl)) rfl
                replace ha := Aside0.mk ha
                have HO234 := Aside0.mk Q_HO234
                have HO238 := Aside0.mk Q_HO238
                have BK240 := Aside0.mk Q_BK240
                have HB := Aside0.mk Q_HB
                have HO245 := Aside0.mk (Q_HO245 (hon 1 (by kernel_rfl)))
                have HA_HO245 := Aside0.mk (Q_HA_HO245 (hon 1 (by kernel_rfl)))
                have HO251 := Aside0.mk (Q_HO251 (hon 6 (by kernel_rfl)))
                have HA_HO251 := Aside0.mk (Q_HA_HO251 (hon 6 (by kernel_rfl)))
                have HI228 := Aside0.mk (Q_HI228_e8 (hon 8 (by kernel_rfl)))
                have BK225 := Aside0.mk (Q_BK225_e11 (hon 11 (by kernel_rfl)))
                refine value_ (w1 := w') (v := .int .i64 (rd y249 t252)) (by rfl) rfl ?_ ?_
                · go_simp
                  (try simp only [i64_w])
                  try rfl
                refine hK.out _ _ ⟨v244, adz_v244, v250, adz_v250, m4_, m9_, (by rw [ha.out]; exact putSel_upk 10 hb_ rfl rfl rfl), Q_HO234, Q_HO238, fun h0_ => absurd ((hon 11 (by kernel_rfl)).symm.trans h0_) (by decide), Q_BK240, fun h0_ => absurd ((hon 3 (by kernel_rfl)).symm.trans h0_) (by decide), Q_HB, Q_HO245, Q_HA_HO245, fun _ h1_ => absurd ((hon 8 (by kernel_rfl)).symm.trans h1_) (by decide), Q_HO251, Q_HA_HO251, Q_HI228_e8, Q_BK225_e11, Q_X4_, Q_X9_⟩
              exact steps_nil
            rintro b a w37 hall ⟨v244, adz_v244, v250, adz_v250, m4_, m9_, ha, Q_HO234, Q_HO238, Q_BK225, Q_BK240, Q_HI228, Q_HB, Q_HO245, Q_HA_HO245, Q_HI228_e3, Q_HO251, Q_HA_HO251, Q_HI228_e8, Q_BK225_e11, Q_X4_, Q_X9_⟩
            clear BK225 BK240 HB HI228 HO234 HO238
            have hb0_ := hall 0 (by kernel_rfl)
            have hb1_ := hall 1 (by kernel_rfl)
            have hb3_ := hall 3 (by kernel_rfl)
            have hb4_ := hall 4 (by kernel_rfl)
            have hb5_ := hall 5 (by kernel_rfl)
            have hb6_ := hall 6 (by kernel_rfl)
            have hb8_ := hall 8 (by kernel_rfl)
            have hb9_ := hall 9 (by kernel_rfl)
            have hb10_ := hall 10 (by kernel_rfl)
            have hb11_ := hall 11 (by kernel_rfl)
            have hb12_ := hall 12 (by kernel_rfl)
            have hb13_ := hall 13 (by kernel_rfl)
            subst ha
            obtain rfl := Q_X4_ hb4_
            obtain rfl := Q_X9_ hb9_
            simp only [putSel, hb0_, hb1_, hb3_, hb4_, hb5_, hb6_, hb8_, hb9_, hb10_, hb11_, hb12_, hb13_, if_true, Act.put, List.setIfInBounds_toArray, List.set_cons_zero, List.set_cons_succ]
            have HO234 := Aside0.mk Q_HO234
            clear Q_HO234
            have HO238 := Aside0.mk Q_HO238
            clear Q_HO238
            clear Q_BK225
            have BK240 := Aside0.mk Q_BK240
            clear Q_BK240
            clear Q_HI228
            have HB := Aside0.mk Q_HB
            clear Q_HB
            have HO245 := Aside0.mk (Q_HO245 hb1_)
            clear Q_HO245
            have HA_HO245 := Aside0.mk (Q_HA_HO245 hb1_)
            clear Q_HA_HO245
            clear Q_HI228_e3
            have HO251 := Aside0.mk (Q_HO251 hb6_)
            clear Q_HO251
            have HA_HO251 := Aside0.mk (Q_HA_HO251 hb6_)
            clear Q_HA_HO251
            have HI228 := Aside0.mk (Q_HI228_e8 hb8_)
            clear Q_HI228_e8
            have BK225 := Aside0.mk (Q_BK225_e11 hb11_)
            clear Q_BK225_e11
            clear hall hb0_ hb1_ hb3_ hb4_ hb5_ hb6_ hb8_ hb9_ hb10_ hb11_ hb12_ hb13_
            obtain ⟨co38, eo38⟩ := HA_HO245.out
            clear HA_HO245
            subst eo38
            obtain ⟨co39, eo39⟩ := HA_HO251.out
            clear HA_HO251
            subst eo39
            try go_wp2
            refine bodyPost_ret (results_ctt rfl _ _ gb225 27 #[.int .i64 t229, .int .i64 t230, .bool t231, .slice Ao19 t232.length co19, .bool t235, .slice Ao20 t236.length co20] (0, 0) _ rfl (by (with_reducible repeat (first | refine blk_drewN ?_ _ | refine blk_drew ?_ | refine blk_alloc ?_ _)); exact BK225.out) Try.underlying27 rfl (by kernel_rfl)) rfl ?_
            exact ⟨_, _, by first | rfl | (simp [errW_none, errW_some] <;> rfl) | (simp [*, errW_none, errW_some] <;> rfl), by (with_reducible repeat (first | apply Kd.R_alloc | apply Kd.R_drewN | apply Kd.R_drew)); first | exact Kd.R_mono HO234.out (fun _ hk => hk.1) | exact (HO234).out, by (with_reducible repeat (first | apply Kd.R_alloc | apply Kd.R_drewN | apply Kd.R_drew)); first | exact Kd.R_mono HO238.out (fun _ hk => hk.1) | exact (HO238).out, by repeat (first | (with_reducible first | exact HB.out | apply below_alloc | apply pw_below_drewN | apply below_drew1 | refine below_set ?_ (IsS91.ge HI228.out) | refine below_set ?_ GE225.out | refine below_set ?_ GE240.out) | exact HB.out)⟩
          · rw [if_neg c11] at H
            exact absurd H (by simp)
        · rw [if_neg c10] at H
          exact absurd H (by simp)
      · rw [if_neg c8] at H
        exact absurd H (by simp)
    · rw [if_neg c7] at H
      exact absurd H (by simp)
  · rw [if_neg c5] at H
    have c5b0 : (t241 == 0) = false := beq_eq_false_iff_ne.mpr c5
    have c5b1 : (t241 != 0) = true := bne_iff_ne.mpr c5
    replace H := Option.bind_eq_some_iff.mp H
    obtain ⟨⟨t255, t256⟩, A400, H⟩ := H
    replace H : ((spec_l6Rd_pick.f k t226 t256 250).bind fun bt257 => (some (t229, t230, t231, t232, t235, t236, t255, bt257.1))) = some (r1, r2, r3, r4, r5, r6, r7, r8) := H
    have A40 := Aside0.mk A400
    clear A400
    replace H := Option.bind_eq_some_iff.mp H
    obtain ⟨⟨t257, t258⟩, A410, H⟩ := H
    replace H : (some (t229, t230, t231, t232, t235, t236, t255, t257)) = some (r1, r2, r3, r4, r5, r6, r7, r8) := H
    have A41 := Aside0.mk A410
    clear A410
    simp only [Option.some.injEq, Prod.mk.injEq] at H
    obtain ⟨rfl, rfl, rfl, rfl, rfl, rfl, rfl, rfl⟩ := H
    go_enter Try.func51, Try.ntmps51
    try go_wp2_with (first | ((with_reducible refine gate_dst (N := 2) rfl ?_); refine box_event ?hg (N := 2) ?hd (cs := #[.int .i64 0, .int .i64 0, .bool false, .slice none 0 0, .bool false, .slice none 0 0]) (t := 27) ?hr ?_; (case hd => rfl); (case hg => rfl); (case hr => first | (go_simp; done) | (go_simp; rfl)); intro gb225 hg w42 hbox hb; have n0_ := Aside0.mk (below_step (by repeat (first | (with_reducible first | exact HB.out | apply below_alloc | apply pw_below_drewN | apply below_drew1) | exact HB.out)) hb); have n1_ := Aside0.mk (hbox); have n2_ := Aside0.mk ((by rw [hg]; exact (below_size (by repeat (first | (with_reducible first | exact HB.out | apply below_alloc | apply pw_below_drewN | apply below_drew1) | exact HB.out))) : w.heap.size ≤ gb225)); have n3_ := Aside0.mk ((by rw [hg]; exact (below_size (by repeat (first | (with_reducible first | exact HB.out | apply below_alloc | apply pw_below_drewN | apply below_drew1) | exact HB.out))) : w.heap.size ≤ gb225)); clear HB; have HB := n0_; have BK225 := n1_; have GW225 := n2_; have GE225 := n3_; clear n0_ n1_ n2_ n3_; clear hb hbox hg) | ((with_reducible refine gate_callee (f := 59) rfl ?_); refine goesL_ (some 8) rfl rfl Try.func59 (by kernel_rfl) rfl #[.slice A0 l0.length c0] rfl (by (try simp only [List.map_toArray, List.map_cons, List.map_nil]); first | done | rfl | (simp only [List.length_drop, List.length_take]; rfl)) ?_; (with_reducible refine (spec_l6Open.calls _ _ l0 t226 t227 w _ ?side1 ?side2 ?side3 A2.out).mono ?_); (case side1 => repeat (first | (with_reducible first | exact HB.out | apply below_alloc | apply pw_below_drewN | apply below_drew1 | refine below_set ?_ GE225.out) | exact HB.out)); (case side2 => exact HR0.out); (case side3 => exact HC0.out); rintro e w43 ⟨g228, rfl, hi, hb, hb2⟩; refine ⟨_, rfl, ?_⟩; have n0_ := Aside0.mk (blk_below (g := gb225) (o := .cells #[.int .i64 0, .int .i64 0, .bool false, .slice none 0 0, .bool false, .slice none 0 0] 27 (0, 0)) (by (with_reducible repeat (first | refine blk_drewN ?_ _ | refine blk_drew ?_ | refine blk_alloc ?_ _)); exact BK225.out) hb2); have n1_ := Aside0.mk (hb); have n2_ := Aside0.mk (hi); have n3_ := Aside0.mk (IsS91.ne_blk hi (blk_below (g := gb225) (o := .cells #[.int .i64 0, .int .i64 0, .bool false, .slice none 0 0, .bool false, .slice none 0 0] 27 (0, 0)) (by (with_reducible repeat (first | refine blk_drewN ?_ _ | refine blk_drew ?_ | refine blk_alloc ?_ _)); exact BK225.out) hb2) (by decide)); have n4_ := Aside0.mk (Ne.symm (IsS91.ne_blk hi (blk_below (g := gb225) (o := .cells #[.int .i64 0, .int .i64 0, .bool false, .slice none 0 0, .bool false, .slice none 0 0] 27 (0, 0)) (by (with_reducible repeat (first | refine blk_drewN ?_ _ | refine blk_drew ?_ | refine blk_alloc ?_ _)); exact BK225.out) hb2) (by decide))); clear BK225; clear HB; have BK225 := n0_; have HB := n1_; have HI228 := n2_; have NB228_225 := n3_; have NB225_228 := n4_; clear n0_ n1_ n2_ n3_ n4_; (try clear hb); (try clear hb2); (try clear hk); (try clear hi)) | ((with_reducible refine gate_callee (f := 85) rfl ?_); refine goesL_ (some 10) rfl rfl Try.func85 (by kernel_rfl) rfl #[.pointer (some ⟨g228, 0, none⟩)] rfl (by (try simp only [List.map_toArray, List.map_cons, List.map_nil]); first | done | rfl | (simp only [List.length_drop, List.length_take]; rfl)) ?_; (with_reducible refine (spec_l91Record.calls k g228 t226 t227 t229 t230 t231 t232 t235 t236 t239 w _ ?side1 ?side2 A3.out).mono ?_); (case side1 => repeat (first | (with_reducible first | exact HI228.out | apply IsS91.alloc | apply IsS91.drewN | apply IsS91.drew | apply IsS91.set_1 | refine IsS91.far ?_ NB228_225.out _) | exact HI228.out)); (case side2 => repeat (first | (with_reducible first | exact HB.out | apply below_alloc | apply pw_below_drewN | apply below_drew1 | refine below_set ?_ (IsS91.ge HI228.out) | refine below_set ?_ GE225.out) | exact HB.out)); rintro e w44 ⟨v233, v237, rfl, ho0, ho1, hi, hb, hk⟩; refine ⟨_, rfl, ?_⟩; have n0_ := Aside0.mk (KeepBut.blk hk (g' := gb225) (o := .cells #[.int .i64 0, .int .i64 0, .bool false, .slice none 0 0, .bool false, .slice none 0 0] 27 (0, 0)) (by (with_reducible repeat (first | refine blk_drewN ?_ _ | refine blk_drew ?_ | refine blk_alloc ?_ _)); exact BK225.out) NB225_228.out (by simp)); have n1_ := Aside0.mk (Kd.R_lower ho0 (below_size (by repeat (first | (with_reducible first | exact HB.out | apply below_alloc | apply pw_below_drewN | apply below_drew1 | refine below_set ?_ (IsS91.ge HI228.out) | refine below_set ?_ GE225.out) | exact HB.out)))); have n2_ := Aside0.mk (Kd.R_lower ho1 (below_size (by repeat (first | (with_reducible first | exact HB.out | apply below_alloc | apply pw_below_drewN | apply below_drew1 | refine below_set ?_ (IsS91.ge HI228.out) | refine below_set ?_ GE225.out) | exact HB.out)))); have n3_ := Aside0.mk (hb); have n4_ := Aside0.mk (hi); clear BK225; clear HB; clear HI228; have BK225 := n0_; have HO234 := n1_; have HO238 := n2_; have HB := n3_; have HI228 := n4_; clear n0_ n1_ n2_ n3_ n4_; (try clear hb); (try clear hb2); (try clear hk); (try clear hi); (try clear ho0); (try clear ho1)) | ((with_reducible refine gate_dst (N := 6) rfl ?_); refine box_event ?hg (N := 6) ?hd (cs := #[.int .i64 0, .int .i64 0, .bool false, .slice none 0 0, .bool false, .slice none 0 0]) (t := 27) ?hr ?_; (case hd => rfl); (case hg => rfl); (case hr => first | (go_simp; done) | (go_simp; rfl)); intro gb240 hg w45 hbox hb; have n0_ := Aside0.mk (Kd.R_below (by (with_reducible repeat (first | apply Kd.R_alloc | apply Kd.R_drewN | apply Kd.R_drew)); exact HO234.out) hb); have n1_ := Aside0.mk (Kd.R_below (by (with_reducible repeat (first | apply Kd.R_alloc | apply Kd.R_drewN | apply Kd.R_drew)); exact HO238.out) hb); have n2_ := Aside0.mk (blk_below (g := gb225) (o := .cells #[.int .i64 0, .int .i64 0, .bool false, .slice none 0 0, .bool false, .slice none 0 0] 27 (0, 0)) (by (with_reducible repeat (first | refine blk_drewN ?_ _ | refine blk_drew ?_ | refine blk_alloc ?_ _)); exact BK225.out) hb); have n3_ := Aside0.mk (IsS91.below (by repeat (first | (with_reducible first | exact HI228.out | apply IsS91.alloc | apply IsS91.drewN | apply IsS91.drew | apply IsS91.set_1 | refine IsS91.far ?_ NB228_225.out _) | exact HI228.out)) hb); have n4_ := Aside0.mk (below_step (by repeat (first | (with_reducible first | exact HB.out | apply below_alloc | apply pw_below_drewN | apply below_drew1 | refine below_set ?_ (IsS91.ge HI228.out) | refine below_set ?_ GE225.out) | exact HB.out)) hb); have n5_ := Aside0.mk (hbox); have n6_ := Aside0.mk ((by rw [hg]; exact (below_size (by repeat (first | (with_reducible first | exact HB.out | apply below_alloc | apply pw_below_drewN | apply below_drew1 | refine below_set ?_ (IsS91.ge HI228.out) | refine below_set ?_ GE225.out) | exact HB.out))) : w.heap.size ≤ gb240)); have n7_ := Aside0.mk ((by rw [hg]; exact (below_size (by repeat (first | (with_reducible first | exact HB.out | apply below_alloc | apply pw_below_drewN | apply below_drew1 | refine below_set ?_ (IsS91.ge HI228.out) | refine below_set ?_ GE225.out) | exact HB.out))) : w.heap.size ≤ gb240)); have n8_ := Aside0.mk ((by rw [hg]; exact Nat.ne_of_lt (blk_lt (g := gb225) (o := .cells #[.int .i64 0, .int .i64 0, .bool false, .slice none 0 0, .bool false, .slice none 0 0] 27 (0, 0)) (by (with_reducible repeat (first | refine blk_drewN ?_ _ | refine blk_drew ?_ | refine blk_alloc ?_ _)); exact BK225.out)) : gb225 ≠ gb240)); have n9_ := Aside0.mk ((by rw [hg]; exact Nat.ne_of_gt (blk_lt (g := gb225) (o := .cells #[.int .i64 0, .int .i64 0, .bool false, .slice none 0 0, .bool false, .slice none 0 0] 27 (0, 0)) (by (with_reducible repeat (first | refine blk_drewN ?_ _ | refine blk_drew ?_ | refine blk_alloc ?_ _)); exact BK225.out)) : gb240 ≠ gb225)); have n10_ := Aside0.mk ((by rw [hg]; exact Nat.ne_of_lt (IsS91.lt (show IsS91 w _ g228 t226 t239 from by repeat (first | (with_reducible first | exact HI228.out | apply IsS91.alloc | apply IsS91.drewN | apply IsS91.drew | apply IsS91.set_1 | refine IsS91.far ?_ NB228_225.out _) | exact HI228.out))) : g228 ≠ gb240)); have n11_ := Aside0.mk ((by rw [hg]; exact Nat.ne_of_gt (IsS91.lt (show IsS91 w _ g228 t226 t239 from by repeat (first | (with_reducible first | exact HI228.out | apply IsS91.alloc | apply IsS91.drewN | apply IsS91.drew | apply IsS91.set_1 | refine IsS91.far ?_ NB228_225.out _) | exact HI228.out))) : gb240 ≠ g228)); clear HO234; clear HO238; clear BK225; clear HI228; clear HB; have HO234 := n0_; have HO238 := n1_; have BK225 := n2_; have HI228 := n3_; have HB := n4_; have BK240 := n5_; have GW240 := n6_; have GE240 := n7_; have NB225_240 := n8_; have NB240_225 := n9_; have NB228_240 := n10_; have NB240_228 := n11_; clear n0_ n1_ n2_ n3_ n4_ n5_ n6_ n7_ n8_ n9_ n10_ n11_; clear hb hbox hg; have hnb46 := NB240_225.out; have hnc46 := NB225_240.out; have hnb47 := NB240_228.out; have hnc47 := NB228_240.out; have hcz48_0 : w45.cell? ⟨gb240, 0, none⟩ = some (.int .i64 0) := (blk_cell BK240.out 0).trans rfl; have hcz48_1 : w45.cell? ⟨gb240, 1, none⟩ = some (.int .i64 0) := (blk_cell BK240.out 1).trans rfl; have hcz48_2 : w45.cell? ⟨gb240, 2, none⟩ = some (.bool false) := (blk_cell BK240.out 2).trans rfl; have hcz48_3 : w45.cell? ⟨gb240, 3, none⟩ = some (.slice none 0 0) := (blk_cell BK240.out 3).trans rfl; have hcz48_4 : w45.cell? ⟨gb240, 4, none⟩ = some (.bool false) := (blk_cell BK240.out 4).trans rfl; have hcz48_5 : w45.cell? ⟨gb240, 5, none⟩ = some (.slice none 0 0) := (blk_cell BK240.out 5).trans rfl; have hfz48_0 := blk_frozen BK240.out 0; have hfz48_1 := blk_frozen BK240.out 1; have hfz48_2 := blk_frozen BK240.out 2; have hfz48_3 := blk_frozen BK240.out 3; have hfz48_4 := blk_frozen BK240.out 4; have hfz48_5 := blk_frozen BK240.out 5; obtain ⟨Ao49, co49, eo49⟩ := Kd.R_slice HO234.out; subst eo49; obtain ⟨Ao50, co50, eo50⟩ := Kd.R_slice HO238.out; subst eo50) | ((with_reducible refine gate_callee (f := 65) rfl ?_); refine goesL_ (some 12) rfl rfl Try.func65 (by kernel_rfl) rfl #[.pointer (some ⟨g228, 0, none⟩), .int .i64 16] rfl (by (try simp only [List.map_toArray, List.map_cons, List.map_nil]); first | done | rfl | (simp only [List.length_drop, List.length_take]; rfl)) ?_; (with_reducible refine (spec_l6Rd_pick.calls k g228 t226 t239 16 t241 t242 w _ ?side1 ?side2 A4.out).mono ?_); (case side1 => repeat (first | (with_reducible first | exact HI228.out | apply IsS91.alloc | apply IsS91.drewN | apply IsS91.drew | apply IsS91.set_1 | refine IsS91.far ?_ NB228_225.out _ | refine IsS91.far ?_ NB228_240.out _) | exact HI228.out)); (case side2 => repeat (first | (with_reducible first | exact HB.out | apply below_alloc | apply pw_below_drewN | apply below_drew1 | refine below_set ?_ (IsS91.ge HI228.out) | refine below_set ?_ GE225.out | refine below_set ?_ GE240.out) | exact HB.out)); rintro e w51 ⟨rfl, hi, hb, hk⟩; refine ⟨_, rfl, ?_⟩; have n0_ := Aside0.mk (KeepBut.blk hk (g' := gb225) (o := .cells #[.int .i64 0, .int .i64 0, .bool false, .slice none 0 0, .bool false, .slice none 0 0] 27 (0, 0)) (by (with_reducible repeat (first | refine blk_drewN ?_ _ | refine blk_drew ?_ | refine blk_alloc ?_ _)); refine blk_far ?_ NB225_240.out _; (with_reducible repeat (first | refine blk_drewN ?_ _ | refine blk_drew ?_ | refine blk_alloc ?_ _)); refine blk_far ?_ NB225_240.out _; (with_reducible repeat (first | refine blk_drewN ?_ _ | refine blk_drew ?_ | refine blk_alloc ?_ _)); refine blk_far ?_ NB225_240.out _; (with_reducible repeat (first | refine blk_drewN ?_ _ | refine blk_drew ?_ | refine blk_alloc ?_ _)); refine blk_far ?_ NB225_240.out _; (with_reducible repeat (first | refine blk_drewN ?_ _ | refine blk_drew ?_ | refine blk_alloc ?_ _)); refine blk_far ?_ NB225_240.out _; (with_reducible repeat (first | refine blk_drewN ?_ _ | refine blk_drew ?_ | refine blk_alloc ?_ _)); refine blk_far ?_ NB225_240.out _; (with_reducible repeat (first | refine blk_drewN ?_ _ | refine blk_drew ?_ | refine blk_alloc ?_ _)); exact BK225.out) NB225_228.out (by simp)); have n1_ := Aside0.mk (Kd.R_mono (Kd.R_keep (IsS91.apart (show IsS91 w _ g228 t226 t239 from by repeat (first | (with_reducible first | exact HI228.out | apply IsS91.alloc | apply IsS91.drewN | apply IsS91.drew | apply IsS91.set_1 | refine IsS91.far ?_ NB228_225.out _ | refine IsS91.far ?_ NB228_240.out _) | exact HI228.out)) (by (with_reducible repeat (first | apply Kd.R_alloc | apply Kd.R_drewN | apply Kd.R_drew)); exact (Kd.R_mono (Kd.R_far (p := ⟨gb240, 5, none⟩) (Kd.R_far (p := ⟨gb240, 4, none⟩) (Kd.R_far (p := ⟨gb240, 3, none⟩) (Kd.R_far (p := ⟨gb240, 2, none⟩) (Kd.R_far (p := ⟨gb240, 1, none⟩) (Kd.R_far (p := ⟨gb240, 0, none⟩) (Kd.R_types HO234.out BK240.out (by decide)) (fun _ hk => hk.2) (.int .i64 t229)) (fun _ hk => hk.2) (.int .i64 t230)) (fun _ hk => hk.2) (.bool t231)) (fun _ hk => hk.2) (.slice Ao49 t232.length co49)) (fun _ hk => hk.2) (.bool t235)) (fun _ hk => hk.2) (.slice Ao50 t236.length co50)) (fun _ h_ => h_.1))) (by decide)) hk (fun _ h => h.2)) (fun _ h => h.1)); have n2_ := Aside0.mk (Kd.R_mono (Kd.R_keep (IsS91.apart (show IsS91 w _ g228 t226 t239 from by repeat (first | (with_reducible first | exact HI228.out | apply IsS91.alloc | apply IsS91.drewN | apply IsS91.drew | apply IsS91.set_1 | refine IsS91.far ?_ NB228_225.out _ | refine IsS91.far ?_ NB228_240.out _) | exact HI228.out)) (by (with_reducible repeat (first | apply Kd.R_alloc | apply Kd.R_drewN | apply Kd.R_drew)); exact (Kd.R_mono (Kd.R_far (p := ⟨gb240, 5, none⟩) (Kd.R_far (p := ⟨gb240, 4, none⟩) (Kd.R_far (p := ⟨gb240, 3, none⟩) (Kd.R_far (p := ⟨gb240, 2, none⟩) (Kd.R_far (p := ⟨gb240, 1, none⟩) (Kd.R_far (p := ⟨gb240, 0, none⟩) (Kd.R_types HO238.out BK240.out (by decide)) (fun _ hk => hk.2) (.int .i64 t229)) (fun _ hk => hk.2) (.int .i64 t230)) (fun _ hk => hk.2) (.bool t231)) (fun _ hk => hk.2) (.slice Ao49 t232.length co49)) (fun _ hk => hk.2) (.bool t235)) (fun _ hk => hk.2) (.slice Ao50 t236.length co50)) (fun _ h_ => h_.1))) (by decide)) hk (fun _ h => h.2)) (fun _ h => h.1)); have n3_ := Aside0.mk (KeepBut.blk hk (g' := gb240) (o := .cells #[.int .i64 t229, .int .i64 t230, .bool t231, .slice Ao49 t232.length co49, .bool t235, .slice Ao50 t236.length co50] 27 (0, 0)) (by (with_reducible repeat (first | refine blk_drewN ?_ _ | refine blk_drew ?_ | refine blk_alloc ?_ _)); refine blk_put (cs := #[.int .i64 t229, .int .i64 t230, .bool t231, .slice Ao49 t232.length co49, .bool t235, .slice none 0 0]) ?_ 5 _ rfl; (with_reducible repeat (first | refine blk_drewN ?_ _ | refine blk_drew ?_ | refine blk_alloc ?_ _)); refine blk_put (cs := #[.int .i64 t229, .int .i64 t230, .bool t231, .slice Ao49 t232.length co49, .bool false, .slice none 0 0]) ?_ 4 _ rfl; (with_reducible repeat (first | refine blk_drewN ?_ _ | refine blk_drew ?_ | refine blk_alloc ?_ _)); refine blk_put (cs := #[.int .i64 t229, .int .i64 t230, .bool t231, .slice none 0 0, .bool false, .slice none 0 0]) ?_ 3 _ rfl; (with_reducible repeat (first | refine blk_drewN ?_ _ | refine blk_drew ?_ | refine blk_alloc ?_ _)); refine blk_put (cs := #[.int .i64 t229, .int .i64 t230, .bool false, .slice none 0 0, .bool false, .slice none 0 0]) ?_ 2 _ rfl; (with_reducible repeat (first | refine blk_drewN ?_ _ | refine blk_drew ?_ | refine blk_alloc ?_ _)); refine blk_put (cs := #[.int .i64 t229, .int .i64 0, .bool false, .slice none 0 0, .bool false, .slice none 0 0]) ?_ 1 _ rfl; (with_reducible repeat (first | refine blk_drewN ?_ _ | refine blk_drew ?_ | refine blk_alloc ?_ _)); refine blk_put (cs := #[.int .i64 0, .int .i64 0, .bool false, .slice none 0 0, .bool false, .slice none 0 0]) ?_ 0 _ rfl; (with_reducible repeat (first | refine blk_drewN ?_ _ | refine blk_drew ?_ | refine blk_alloc ?_ _)); exact BK240.out) NB240_228.out (by simp)); have n4_ := Aside0.mk (hb); have n5_ := Aside0.mk (hi); clear BK225; clear HO234; clear HO238; clear BK240; clear HB; clear HI228; have BK225 := n0_; have HO234 := n1_; have HO238 := n2_; have BK240 := n3_; have HB := n4_; have HI228 := n5_; clear n0_ n1_ n2_ n3_ n4_ n5_; (try clear hb); (try clear hb2); (try clear hk); (try clear hi)))
    have n0_ := Aside0.mk (Kd.R_drew HO234.out)
    have n1_ := Aside0.mk (Kd.R_drew HO238.out)
    have n2_ := Aside0.mk (blk_drew BK225.out)
    have n3_ := Aside0.mk (blk_drew BK240.out)
    have n4_ := Aside0.mk (IsS91.drew HI228.out)
    have n5_ := Aside0.mk (below_drew1 HB.out)
    clear HO234
    clear HO238
    clear BK225
    clear BK240
    clear HI228
    clear HB
    have HO234 := n0_
    have HO238 := n1_
    have BK225 := n2_
    have BK240 := n3_
    have HI228 := n4_
    have HB := n5_
    clear n0_ n1_ n2_ n3_ n4_ n5_
    refine start_ (n := 8) (S := fun w' => w'.cell? ⟨gb240, 0, none⟩ = some (.int .i64 t229) ∧ w'.cell? ⟨gb240, 1, none⟩ = some (.int .i64 t230) ∧ w'.cell? ⟨gb240, 2, none⟩ = some (.bool t231) ∧ w'.cell? ⟨gb240, 3, none⟩ = some (.slice Ao49 t232.length co49) ∧ w'.cell? ⟨gb240, 4, none⟩ = some (.bool t235) ∧ w'.cell? ⟨gb240, 5, none⟩ = some (.slice Ao50 t236.length co50)) (ds := []) #[false, false, false, false, false, false, false, false] (by kernel_rfl) rfl rfl ⟨(blk_cell BK240.out 0).trans rfl, (blk_cell BK240.out 1).trans rfl, (blk_cell BK240.out 2).trans rfl, (blk_cell BK240.out 3).trans rfl, (blk_cell BK240.out 4).trans rfl, (blk_cell BK240.out 5).trans rfl⟩ (fun hHeld => ?_); refine with_tabW spec_DrawRecordBytes.tab5 spec_DrawRecordBytes.bits5 (fun HT_ HW_ => ?_)
    generalize w51.drew = w52 at HO234 HO238 BK225 BK240 HI228 HB hHeld ⊢
    refine pure_ (i := 1) (N := some 26) (v := ?_) (a' := ?_) #[false, true, false, false, false, false, false, false] rfl rfl (any_of HT_.out (by kernel_rfl)) (fun _ _ _ h => h) (Or.inl ⟨by rfl, ?_⟩) ?_ ?_
    rotate_left
    · intro w'
      go_simp
      with_reducible rfl
    rotate_left
    · simp only [Act.put, List.setIfInBounds_toArray, List.set_cons_zero, List.set_cons_succ, i64_w, i32_w]
      rfl
    refine pure_ (i := 3) (N := some 28) (v := ?_) (a' := ?_) #[false, true, false, true, false, false, false, false] rfl rfl (any_of HT_.out (by kernel_rfl)) (fun _ _ _ h => h) (Or.inl ⟨by rfl, ?_⟩) ?_ ?_
    rotate_left
    · intro w'
      go_simp
      with_reducible rfl
    rotate_left
    · simp only [Act.put, List.setIfInBounds_toArray, List.set_cons_zero, List.set_cons_succ, i64_w, i32_w]
      rfl
    refine take_ (i := 0) (N := some 25) (v := ?_) (a' := ?_) #[true, true, false, true, false, false, false, false] rfl rfl (take_ofW HT_.out HW_.out (by kernel_rfl)) (fun _ _ _ h => h) (Or.inl ⟨by rfl, ?_⟩) hHeld ?_ ?_
    rotate_left
    · rintro w' ⟨s0, s1, s2, s3, s4, s5⟩
      go_simp
      with_reducible rfl
    rotate_left
    · simp only [Act.put, List.setIfInBounds_toArray, List.set_cons_zero, List.set_cons_succ, i64_w, i32_w]
      rfl
    refine one_ (i := 2) (N := some 27) #[true, true, true, true, false, false, false, false] rfl rfl (one_of HT_.out (by kernel_rfl)) (by decide) (fun K hK => ?_)
    refine goes_ Try.func65 (by kernel_rfl) rfl #[.pointer (some ⟨g228, 0, none⟩), .int .i64 60] (by rfl) rfl rfl (by (try simp only [List.map_toArray, List.map_cons, List.map_nil]); first | done | rfl | (simp only [List.length_drop, List.length_take]; rfl)) ?_
    with_reducible refine (spec_l6Rd_pick.calls k g228 t226 t242 60 t255 t256 w _ ?side1 ?side2 A40.out).mono ?_
    (case side1 => repeat (first | (with_reducible first | exact HI228.out | apply IsS91.alloc | apply IsS91.drewN | apply IsS91.drew | apply IsS91.set_1 | refine IsS91.far ?_ NB228_225.out _ | refine IsS91.far ?_ NB228_240.out _) | exact HI228.out))
    (case side2 => repeat (first | (with_reducible first | exact HB.out | apply below_alloc | apply pw_below_drewN | apply below_drew1 | refine below_set ?_ (IsS91.ge HI228.out) | refine below_set ?_ GE225.out | refine below_set ?_ GE240.out) | exact HB.out))
    rintro e w53 ⟨rfl, hi, hb, hk⟩
    refine ⟨_, rfl, ?_⟩
    have n0_ := Aside0.mk (KeepBut.blk hk (g' := gb225) (o := .cells #[.int .i64 0, .int .i64 0, .bool false, .slice none 0 0, .bool false, .slice none 0 0] 27 (0, 0)) (by (with_reducible repeat (first | refine blk_drewN ?_ _ | refine blk_drew ?_ | refine blk_alloc ?_ _)); exact BK225.out) NB225_228.out (by simp))
    have n1_ := Aside0.mk (Kd.R_mono (Kd.R_keep (IsS91.apart (show IsS91 w _ g228 t226 t242 from by repeat (first | (with_reducible first | exact HI228.out | apply IsS91.alloc | apply IsS91.drewN | apply IsS91.drew | apply IsS91.set_1 | refine IsS91.far ?_ NB228_225.out _ | refine IsS91.far ?_ NB228_240.out _) | exact HI228.out)) (by (with_reducible repeat (first | apply Kd.R_alloc | apply Kd.R_drewN | apply Kd.R_drew)); exact HO234.out) (by decide)) hk (fun _ h => h.2)) (fun _ h => h.1))
    have n2_ := Aside0.mk (Kd.R_mono (Kd.R_keep (IsS91.apart (show IsS91 w _ g228 t226 t242 from by repeat (first | (with_reducible first | exact HI228.out | apply IsS91.alloc | apply IsS91.drewN | apply IsS91.drew | apply IsS91.set_1 | refine IsS91.far ?_ NB228_225.out _ | refine IsS91.far ?_ NB228_240.out _) | exact HI228.out)) (by (with_reducible repeat (first | apply Kd.R_alloc | apply Kd.R_drewN | apply Kd.R_drew)); exact HO238.out) (by decide)) hk (fun _ h => h.2)) (fun _ h => h.1))
    have n3_ := Aside0.mk (KeepBut.blk hk (g' := gb240) (o := .cells #[.int .i64 t229, .int .i64 t230, .bool t231, .slice Ao49 t232.length co49, .bool t235, .slice Ao50 t236.length co50] 27 (0, 0)) (by (with_reducible repeat (first | refine blk_drewN ?_ _ | refine blk_drew ?_ | refine blk_alloc ?_ _)); exact BK240.out) NB240_228.out (by simp))
    have n4_ := Aside0.mk (hb)
    have n5_ := Aside0.mk (hi)
    clear BK225
    clear HO234
    clear HO238
    clear BK240
    clear HB
    clear HI228
    have BK225 := n0_
    have HO234 := n1_
    have HO238 := n2_
    have BK240 := n3_
    have HB := n4_
    have HI228 := n5_
    clear n0_ n1_ n2_ n3_ n4_ n5_
    (try clear hb)
    (try clear hb2)
    (try clear hk)
    (try clear hi)
    refine hK.out _ _ ⟨(blk_cell BK240.out 0).trans rfl, (blk_cell BK240.out 1).trans rfl, (blk_cell BK240.out 2).trans rfl, (blk_cell BK240.out 3).trans rfl, (blk_cell BK240.out 4).trans rfl, (blk_cell BK240.out 5).trans rfl⟩ (fun hHeld => ?_)
    clear hK K
    refine norm_ (a' := ?_) ?_ ?_
    rotate_left
    · show Act.put _ (some 27) _ = _
      simp only [Act.put, List.setIfInBounds_toArray, List.set_cons_zero, List.set_cons_succ, i64_w, i32_w]
      rfl
    refine one_ (i := 4) (N := some 29) #[true, true, true, true, true, false, false, false] rfl rfl (one_of HT_.out (by kernel_rfl)) (by decide) (fun K hK => ?_)
    refine goes_ Try.func65 (by kernel_rfl) rfl #[.pointer (some ⟨g228, 0, none⟩), .int .i64 250] (by rfl) rfl rfl (by (try simp only [List.map_toArray, List.map_cons, List.map_nil]); first | done | rfl | (simp only [List.length_drop, List.length_take]; rfl)) ?_
    with_reducible refine (spec_l6Rd_pick.calls k g228 t226 t256 250 t257 t258 w _ ?side1 ?side2 A41.out).mono ?_
    (case side1 => repeat (first | (with_reducible first | exact HI228.out | apply IsS91.alloc | apply IsS91.drewN | apply IsS91.drew | apply IsS91.set_1 | refine IsS91.far ?_ NB228_225.out _ | refine IsS91.far ?_ NB228_240.out _) | exact HI228.out))
    (case side2 => repeat (first | (with_reducible first | exact HB.out | apply below_alloc | apply pw_below_drewN | apply below_drew1 | refine below_set ?_ (IsS91.ge HI228.out) | refine below_set ?_ GE225.out | refine below_set ?_ GE240.out) | exact HB.out))
    rintro e w54 ⟨rfl, hi, hb, hk⟩
    refine ⟨_, rfl, ?_⟩
    have n0_ := Aside0.mk (KeepBut.blk hk (g' := gb225) (o := .cells #[.int .i64 0, .int .i64 0, .bool false, .slice none 0 0, .bool false, .slice none 0 0] 27 (0, 0)) (by (with_reducible repeat (first | refine blk_drewN ?_ _ | refine blk_drew ?_ | refine blk_alloc ?_ _)); exact BK225.out) NB225_228.out (by simp))
    have n1_ := Aside0.mk (Kd.R_mono (Kd.R_keep (IsS91.apart (show IsS91 w _ g228 t226 t256 from by repeat (first | (with_reducible first | exact HI228.out | apply IsS91.alloc | apply IsS91.drewN | apply IsS91.drew | apply IsS91.set_1 | refine IsS91.far ?_ NB228_225.out _ | refine IsS91.far ?_ NB228_240.out _) | exact HI228.out)) (by (with_reducible repeat (first | apply Kd.R_alloc | apply Kd.R_drewN | apply Kd.R_drew)); exact HO234.out) (by decide)) hk (fun _ h => h.2)) (fun _ h => h.1))
    have n2_ := Aside0.mk (Kd.R_mono (Kd.R_keep (IsS91.apart (show IsS91 w _ g228 t226 t256 from by repeat (first | (with_reducible first | exact HI228.out | apply IsS91.alloc | apply IsS91.drewN | apply IsS91.drew | apply IsS91.set_1 | refine IsS91.far ?_ NB228_225.out _ | refine IsS91.far ?_ NB228_240.out _) | exact HI228.out)) (by (with_reducible repeat (first | apply Kd.R_alloc | apply Kd.R_drewN | apply Kd.R_drew)); exact HO238.out) (by decide)) hk (fun _ h => h.2)) (fun _ h => h.1))
    have n3_ := Aside0.mk (KeepBut.blk hk (g' := gb240) (o := .cells #[.int .i64 t229, .int .i64 t230, .bool t231, .slice Ao49 t232.length co49, .bool t235, .slice Ao50 t236.length co50] 27 (0, 0)) (by (with_reducible repeat (first | refine blk_drewN ?_ _ | refine blk_drew ?_ | refine blk_alloc ?_ _)); exact BK240.out) NB240_228.out (by simp))
    have n4_ := Aside0.mk (hb)
    have n5_ := Aside0.mk (hi)
    clear BK225
    clear HO234
    clear HO238
    clear BK240
    clear HB
    clear HI228
    have BK225 := n0_
    have HO234 := n1_
    have HO238 := n2_
    have BK240 := n3_
    have HB := n4_
    have HI228 := n5_
    clear n0_ n1_ n2_ n3_ n4_ n5_
    (try clear hb)
    (try clear hb2)
    (try clear hk)
    (try clear hi)
    refine hK.out _ _ ⟨(blk_cell BK240.out 0).trans rfl, (blk_cell BK240.out 1).trans rfl, (blk_cell BK240.out 2).trans rfl, (blk_cell BK240.out 3).trans rfl, (blk_cell BK240.out 4).trans rfl, (blk_cell BK240.out 5).trans rfl⟩ (fun hHeld => ?_)
    clear hK K
    refine norm_ (a' := ?_) ?_ ?_
    rotate_left
    · show Act.put _ (some 29) _ = _
      simp only [Act.put, List.setIfInBounds_toArray, List.set_cons_zero, List.set_cons_succ, i64_w, i32_w]
      rfl
    refine one_ (i := 5) (N := none) #[true, true, true, true, true, true, false, false] rfl rfl (one_of HT_.out (by kernel_rfl)) (by decide) (fun K hK => ?_)
    have hs55 : w54.cell? ⟨gb225, 0, none⟩ = some (.int .i64 0) := (blk_cell BK225.out 0).trans rfl
    have hfs55 := blk_frozen BK225.out 0
    have hns55_1 := NB240_225.out
    have hms55_1 := NB225_240.out
    have hs56 : w54.cell? ⟨gb225, 1, none⟩ = some (.int .i64 0) := (blk_cell BK225.out 1).trans rfl
    have hfs56 := blk_frozen BK225.out 1
    have hns56_1 := NB240_225.out
    have hms56_1 := NB225_240.out
    have hs57 : w54.cell? ⟨gb225, 2, none⟩ = some (.bool false) := (blk_cell BK225.out 2).trans rfl
    have hfs57 := blk_frozen BK225.out 2
    have hns57_1 := NB240_225.out
    have hms57_1 := NB225_240.out
    have hs58 : w54.cell? ⟨gb225, 3, none⟩ = some (.slice none 0 0) := (blk_cell BK225.out 3).trans rfl
    have hfs58 := blk_frozen BK225.out 3
    have hns58_1 := NB240_225.out
    have hms58_1 := NB225_240.out
    have hs59 : w54.cell? ⟨gb225, 4, none⟩ = some (.bool false) := (blk_cell BK225.out 4).trans rfl
    have hfs59 := blk_frozen BK225.out 4
    have hns59_1 := NB240_225.out
    have hms59_1 := NB225_240.out
    have hs60 : w54.cell? ⟨gb225, 5, none⟩ = some (.slice none 0 0) := (blk_cell BK225.out 5).trans rfl
    have hfs60 := blk_frozen BK225.out 5
    have hns60_1 := NB240_225.out
    have hms60_1 := NB225_240.out
    refine skip_ (w1 := ?_) (by rfl) rfl ?_ ?_
    rotate_left
    · go_simp
      rfl
    refine hK.out _ _ ⟨((cell_far (p := ⟨gb225, _, none⟩) NB240_225.out _).trans (((cell_far (p := ⟨gb225, _, none⟩) NB240_225.out _).trans (((cell_far (p := ⟨gb225, _, none⟩) NB240_225.out _).trans (((cell_far (p := ⟨gb225, _, none⟩) NB240_225.out _).trans (((cell_far (p := ⟨gb225, _, none⟩) NB240_225.out _).trans (((cell_far (p := ⟨gb225, _, none⟩) NB240_225.out _).trans (hHeld.1)))))))))))), ((cell_far (p := ⟨gb225, _, none⟩) NB240_225.out _).trans (((cell_far (p := ⟨gb225, _, none⟩) NB240_225.out _).trans (((cell_far (p := ⟨gb225, _, none⟩) NB240_225.out _).trans (((cell_far (p := ⟨gb225, _, none⟩) NB240_225.out _).trans (((cell_far (p := ⟨gb225, _, none⟩) NB240_225.out _).trans (((cell_far (p := ⟨gb225, _, none⟩) NB240_225.out _).trans (hHeld.2.1)))))))))))), ((cell_far (p := ⟨gb225, _, none⟩) NB240_225.out _).trans (((cell_far (p := ⟨gb225, _, none⟩) NB240_225.out _).trans (((cell_far (p := ⟨gb225, _, none⟩) NB240_225.out _).trans (((cell_far (p := ⟨gb225, _, none⟩) NB240_225.out _).trans (((cell_far (p := ⟨gb225, _, none⟩) NB240_225.out _).trans (((cell_far (p := ⟨gb225, _, none⟩) NB240_225.out _).trans (hHeld.2.2.1)))))))))))), ((cell_far (p := ⟨gb225, _, none⟩) NB240_225.out _).trans (((cell_far (p := ⟨gb225, _, none⟩) NB240_225.out _).trans (((cell_far (p := ⟨gb225, _, none⟩) NB240_225.out _).trans (((cell_far (p := ⟨gb225, _, none⟩) NB240_225.out _).trans (((cell_far (p := ⟨gb225, _, none⟩) NB240_225.out _).trans (((cell_far (p := ⟨gb225, _, none⟩) NB240_225.out _).trans (hHeld.2.2.2.1)))))))))))), ((cell_far (p := ⟨gb225, _, none⟩) NB240_225.out _).trans (((cell_far (p := ⟨gb225, _, none⟩) NB240_225.out _).trans (((cell_far (p := ⟨gb225, _, none⟩) NB240_225.out _).trans (((cell_far (p := ⟨gb225, _, none⟩) NB240_225.out _).trans (((cell_far (p := ⟨gb225, _, none⟩) NB240_225.out _).trans (((cell_far (p := ⟨gb225, _, none⟩) NB240_225.out _).trans (hHeld.2.2.2.2.1)))))))))))), ((cell_far (p := ⟨gb225, _, none⟩) NB240_225.out _).trans (((cell_far (p := ⟨gb225, _, none⟩) NB240_225.out _).trans (((cell_far (p := ⟨gb225, _, none⟩) NB240_225.out _).trans (((cell_far (p := ⟨gb225, _, none⟩) NB240_225.out _).trans (((cell_far (p := ⟨gb225, _, none⟩) NB240_225.out _).trans (((cell_far (p := ⟨gb225, _, none⟩) NB240_225.out _).trans (hHeld.2.2.2.2.2))))))))))))⟩ (fun hHeld => ?_)
    clear hK K
    refine pure_ (i := 6) (N := some 3) (v := ?_) (a' := ?_) #[true, true, true, true, true, true, true, false] rfl rfl (any_of HT_.out (by kernel_rfl)) (fun _ _ _ h => h) (Or.inl ⟨by rfl, ?_⟩) ?_ ?_
    rotate_left
    · intro w'
      go_simp
      with_reducible rfl
    rotate_left
    · simp only [Act.put, List.setIfInBounds_toArray, List.set_cons_zero, List.set_cons_succ, i64_w, i32_w]
      rfl
    refine pure_ (i := 7) (N := some 4) (v := ?_) (a' := ?_) #[true, true, true, true, true, true, true, true] rfl rfl (any_of HT_.out (by kernel_rfl)) (fun _ _ _ h => h) (Or.inl ⟨by rfl, ?_⟩) ?_ ?_
    rotate_left
    · intro w'
      go_simp
      with_reducible rfl
    rotate_left
    · simp only [Act.put, List.setIfInBounds_toArray, List.set_cons_zero, List.set_cons_succ, i64_w, i32_w]
      rfl
    refine done_ (done_of HT_.out (by kernel_rfl)) ?_
    try go_wp2
    refine bodyPost_ret (results_ctt rfl _ _ gb225 27 #[.int .i64 t229, .int .i64 t230, .bool t231, .slice Ao49 t232.length co49, .bool t235, .slice Ao50 t236.length co50] (0, 0) _ rfl (by (with_reducible repeat (first | refine blk_drewN ?_ _ | refine blk_drew ?_ | refine blk_alloc ?_ _)); refine blk_put (cs := #[.int .i64 t229, .int .i64 t230, .bool t231, .slice Ao49 t232.length co49, .bool t235, .slice none 0 0]) ?_ 5 _ rfl; (with_reducible repeat (first | refine blk_drewN ?_ _ | refine blk_drew ?_ | refine blk_alloc ?_ _)); refine blk_put (cs := #[.int .i64 t229, .int .i64 t230, .bool t231, .slice Ao49 t232.length co49, .bool false, .slice none 0 0]) ?_ 4 _ rfl; (with_reducible repeat (first | refine blk_drewN ?_ _ | refine blk_drew ?_ | refine blk_alloc ?_ _)); refine blk_put (cs := #[.int .i64 t229, .int .i64 t230, .bool t231, .slice none 0 0, .bool false, .slice none 0 0]) ?_ 3 _ rfl; (with_reducible repeat (first | refine blk_drewN ?_ _ | refine blk_drew ?_ | refine blk_alloc ?_ _)); refine blk_put (cs := #[.int .i64 t229, .int .i64 t230, .bool false, .slice none 0 0, .bool false, .slice none 0 0]) ?_ 2 _ rfl; (with_reducible repeat (first | refine blk_drewN ?_ _ | refine blk_drew ?_ | refine blk_alloc ?_ _)); refine blk_put (cs := #[.int .i64 t229, .int .i64 0, .bool false, .slice none 0 0, .bool false, .slice none 0 0]) ?_ 1 _ rfl; (with_reducible repeat (first | refine blk_drewN ?_ _ | refine blk_drew ?_ | refine blk_alloc ?_ _)); refine blk_put (cs := #[.int .i64 0, .int .i64 0, .bool false, .slice none 0 0, .bool false, .slice none 0 0]) ?_ 0 _ rfl; (with_reducible repeat (first | refine blk_drewN ?_ _ | refine blk_drew ?_ | refine blk_alloc ?_ _)); exact BK225.out) Try.underlying27 rfl (by kernel_rfl)) rfl ?_
    exact ⟨_, _, by first | rfl | (simp [errW_none, errW_some] <;> rfl) | (simp [*, errW_none, errW_some] <;> rfl), by (with_reducible repeat (first | apply Kd.R_alloc | apply Kd.R_drewN | apply Kd.R_drew)); exact Kd.R_mono (Kd.R_far (p := ⟨gb225, 5, none⟩) (Kd.R_far (p := ⟨gb225, 4, none⟩) (Kd.R_far (p := ⟨gb225, 3, none⟩) (Kd.R_far (p := ⟨gb225, 2, none⟩) (Kd.R_far (p := ⟨gb225, 1, none⟩) (Kd.R_far (p := ⟨gb225, 0, none⟩) (Kd.R_types HO234.out BK225.out (by decide)) (fun _ hk => hk.2) (.int .i64 t229)) (fun _ hk => hk.2) (.int .i64 t230)) (fun _ hk => hk.2) (.bool t231)) (fun _ hk => hk.2) (.slice Ao49 t232.length co49)) (fun _ hk => hk.2) (.bool t235)) (fun _ hk => hk.2) (.slice Ao50 t236.length co50)) (fun _ hk => hk.1), by (with_reducible repeat (first | apply Kd.R_alloc | apply Kd.R_drewN | apply Kd.R_drew)); exact Kd.R_mono (Kd.R_far (p := ⟨gb225, 5, none⟩) (Kd.R_far (p := ⟨gb225, 4, none⟩) (Kd.R_far (p := ⟨gb225, 3, none⟩) (Kd.R_far (p := ⟨gb225, 2, none⟩) (Kd.R_far (p := ⟨gb225, 1, none⟩) (Kd.R_far (p := ⟨gb225, 0, none⟩) (Kd.R_types HO238.out BK225.out (by decide)) (fun _ hk => hk.2) (.int .i64 t229)) (fun _ hk => hk.2) (.int .i64 t230)) (fun _ hk => hk.2) (.bool t231)) (fun _ hk => hk.2) (.slice Ao49 t232.length co49)) (fun _ hk => hk.2) (.bool t235)) (fun _ hk => hk.2) (.slice Ao50 t236.length co50)) (fun _ hk => hk.1), by repeat (first | (with_reducible first | exact HB.out | apply below_alloc | apply pw_below_drewN | apply below_drew1 | refine below_set ?_ (IsS91.ge HI228.out) | refine below_set ?_ GE225.out | refine below_set ?_ GE240.out) | exact HB.out)⟩

/-! ### spec_l6In: function 54 -/
def spec_l6In.f (a0 : Int) (a1 : Int) (a2 : Int) : Option (Bool) := if a0 ≥ a1 then (some (decide (a0 ≤ a2))) else (some false)
set_option maxHeartbeats 8000000 in
set_option maxRecDepth 100000 in
theorem spec_l6In.calls (a0 : Int) (a1 : Int) (a2 : Int) (r : Bool) (w : World) (h : spec_l6In.f a0 a1 a2 = some r) :
    Calls Try.prog 54 #[.int .i64 a0, .int .i64 a1, .int .i64 a2] w fun e w' => e = .returned (.bool r) ∧ Drawn0 w w' := by
  have H : (if a0 ≥ a1 then (some (decide (a0 ≤ a2))) else (some false)) = some r := h
  clear h
  by_cases c4 : a0 ≥ a1
  · rw [if_pos c4] at H
    have c4b0 : decide (a1 ≤ a0) = true := decide_eq_true c4
    clear c4
    obtain rfl := Option.some.inj H
    go_enter Try.func54, Try.ntmps54
    go_wp2
    go_ret
    exact ⟨by first | rfl | (simp; done) | (simp [*]; done), by repeat (first | exact Drawn0.refl _ | apply Drawn0.step)⟩
  · rw [if_neg c4] at H
    have c4b0 : decide (a1 ≤ a0) = false := decide_eq_false c4
    clear c4
    obtain rfl := Option.some.inj H
    go_enter Try.func54, Try.ntmps54
    go_wp2
    go_ret
    exact ⟨by first | rfl | (simp; done) | (simp [*]; done), by repeat (first | exact Drawn0.refl _ | apply Drawn0.step)⟩

/-! ### spec_l1Ok: function 63 -/
def spec_l1Ok.l0 : Nat → List Int → Int → Option (Bool)
  | 0, _, _ => none
  | k + 1, x0, x3 => if x3 < (x0.length : Int) then (if 0 ≤ x3 then ((spec_l6In.f (rd x0 x3) 0 255).bind fun t260 => (if t260 = true then (spec_l1Ok.l0 k x0 (wrap64 (x3 + 1))) else (some false))) else (none)) else (some true)
def spec_l1Ok.f (k : Nat) (l0 : List Int) : Option (Bool) := spec_l1Ok.l0 k l0 0
theorem spec_l1Ok.mono_l : ∀ k, (∀ y0 y1, LeO (spec_l1Ok.l0 k y0 y1) (spec_l1Ok.l0 (k + 1) y0 y1))
  | 0 => fun _ _ r h => by simp [spec_l1Ok.l0] at h
  | k + 1 => by
    have ih0 := spec_l1Ok.mono_l k
    · intro y0 y1
      unfold spec_l1Ok.l0
      repeat' first
      | (with_reducible exact ih0 _ _)
      | (with_reducible exact LeO.refl _)
      | (with_reducible exact LeO.none _)
      | (with_reducible refine LeO.ite ?_ ?_)
      | (with_reducible refine LeO.bind ?_ (fun _ => ?_))
      | exact ih0 _ _
      | exact LeO.none _
      | refine LeO.ite ?_ ?_
      | refine LeO.bind ?_ (fun _ => ?_)
theorem spec_l1Ok.mono : ∀ a0 k, LeO (spec_l1Ok.f k a0) (spec_l1Ok.f (k + 1) a0) := by
  intro a0 k
  have ih0 := spec_l1Ok.mono_l k
  unfold spec_l1Ok.f
  repeat' first
      | (with_reducible exact ih0 _ _)
      | (with_reducible exact LeO.refl _)
      | (with_reducible exact LeO.none _)
      | (with_reducible refine LeO.ite ?_ ?_)
      | (with_reducible refine LeO.bind ?_ (fun _ => ?_))
      | exact ih0 _ _
      | exact LeO.none _
      | refine LeO.ite ?_ ?_
      | refine LeO.bind ?_ (fun _ => ?_)
set_option maxHeartbeats 8000000 in
set_option maxRecDepth 100000 in
theorem spec_l1Ok.calls (k : Nat) (A0 : Option Addr) (c0 : Nat) (l0 : List Int) (r : Bool) (w : World) (hr0 : Kd.C (Kd.int .i64) w A0 l0.length l0) (hc0 : l0.length ≤ c0) (h : spec_l1Ok.f k l0 = some r) :
    Calls Try.prog 63 #[.slice A0 l0.length c0] w fun e w' => e = .returned (.bool r) ∧ Drawn0 w w' := by
  have HR0 := Aside0.mk hr0
  have HC0 := Aside0.mk hc0
  clear hr0 hc0
  have H : (spec_l1Ok.l0 k l0 0) = some r := h
  clear h
  have H' := Aside0.mk H
  clear H
  go_enter Try.func63, Try.ntmps63
  go_wp2
  go_loopg [3] k (fun kq v3 w' => ∃ (x3_1 : Int), v3 = .int .i64 x3_1 ∧ Aside0 (spec_l1Ok.l0 kq l0 x3_1 = some r) ∧ Aside0 (kq ≤ k) ∧ Drawn0 w w')
  case atStart => exact ⟨(0), (by first | rfl | (simp; done) | (simp [*]; done)), H', ⟨Nat.le_refl _⟩, by repeat (first | exact Drawn0.refl _ | apply Drawn0.step)⟩
  case round =>
    clear H'
    obtain ⟨x3_1, rfl, HA, HK1, ⟨m1, rfl⟩⟩ := hrel
    cases gk with
    | zero => exact absurd HA.out (by simp [spec_l1Ok.l0])
    | succ k1 =>
      have H := HA.out
      clear HA
      simp only [spec_l1Ok.l0] at H
      by_cases c2 : x3_1 < (l0.length : Int)
      · rw [if_pos c2] at H
        have c2b0 : decide (x3_1 < (l0.length : Int)) = true := decide_eq_true c2
        clear c2
        by_cases c3 : 0 ≤ x3_1
        · rw [if_pos c3] at H
          have c3b0 : decide (0 ≤ x3_1) = true := decide_eq_true c3
          clear c3
          replace H := Option.bind_eq_some_iff.mp H
          obtain ⟨t260, A40, H⟩ := H
          replace H : (if t260 = true then (spec_l1Ok.l0 k1 l0 (wrap64 (x3_1 + 1))) else (some false)) = some r := H
          have A4 := Aside0.mk A40
          clear A40
          by_cases c5 : t260 = true
          · subst c5
            have H1 : (spec_l1Ok.l0 k1 l0 (wrap64 (x3_1 + 1))) = some r := by rw [if_pos rfl] at H; exact H
            clear H
            have H := H1
            clear H1
            have H' := Aside0.mk H
            clear H
            have p259 : 0 ≤ (x3_1 : Int) := of_decide_eq_true (by first | (with_reducible assumption) | assumption)
            have q259 : x3_1 < (l0.length : Int) := of_decide_eq_true (by first | (with_reducible assumption) | assumption)
            obtain ⟨ad259, e259, hx259_0⟩ := Kd.at_int HR0.out x3_1 p259 q259
            cases e259
            replace p259 := eq_true p259
            replace q259 := eq_true q259
            go_wp2_with (first | ((with_reducible refine gate_callee (f := 54) rfl ?_); refine goesL_ (some 14) rfl rfl Try.func54 (by kernel_rfl) rfl #[.int .i64 (rd l0 x3_1), .int .i64 0, .int .i64 255] rfl (by (try simp only [List.map_toArray, List.map_cons, List.map_nil]); first | done | rfl | (simp only [List.length_drop, List.length_take]; rfl)) ?_; (with_reducible refine (spec_l6In.calls (rd l0 x3_1) 0 255 true _ A4.out).mono ?_); rintro e w' ⟨rfl, ⟨nd, rfl⟩⟩; refine ⟨_, rfl, ?_⟩))
            go_roundg k1
            case measure => have := HK1.out; omega
            case rel => exact ⟨(wrap64 (x3_1 + 1)), (by first | rfl | (simp; done) | (simp [*]; done)), H', ⟨by have := HK1.out; omega⟩, by repeat (first | exact Drawn0.refl _ | apply Drawn0.step)⟩
          · replace c5 := Bool.eq_false_iff.mpr c5
            subst c5
            have H1 : (some false) = some r := by rw [if_neg (show ¬ (false = true) by decide)] at H; exact H
            clear H
            have H := H1
            clear H1
            obtain rfl := Option.some.inj H
            have p259 : 0 ≤ (x3_1 : Int) := of_decide_eq_true (by first | (with_reducible assumption) | assumption)
            have q259 : x3_1 < (l0.length : Int) := of_decide_eq_true (by first | (with_reducible assumption) | assumption)
            obtain ⟨ad259, e259, hx259_0⟩ := Kd.at_int HR0.out x3_1 p259 q259
            cases e259
            replace p259 := eq_true p259
            replace q259 := eq_true q259
            go_wp2_with (first | ((with_reducible refine gate_callee (f := 54) rfl ?_); refine goesL_ (some 14) rfl rfl Try.func54 (by kernel_rfl) rfl #[.int .i64 (rd l0 x3_1), .int .i64 0, .int .i64 255] rfl (by (try simp only [List.map_toArray, List.map_cons, List.map_nil]); first | done | rfl | (simp only [List.length_drop, List.length_take]; rfl)) ?_; (with_reducible refine (spec_l6In.calls (rd l0 x3_1) 0 255 false _ A4.out).mono ?_); rintro e w' ⟨rfl, ⟨nd, rfl⟩⟩; refine ⟨_, rfl, ?_⟩))
            go_ret
            exact ⟨by first | rfl | (simp; done) | (simp [*]; done), by repeat (first | exact Drawn0.refl _ | apply Drawn0.step)⟩
        · rw [if_neg c3] at H
          exact absurd H (by simp)
      · rw [if_neg c2] at H
        have c2b0 : decide (x3_1 < (l0.length : Int)) = false := decide_eq_false c2
        clear c2
        obtain rfl := Option.some.inj H
        go_wp2
        go_ret
        exact ⟨by first | rfl | (simp; done) | (simp [*]; done), by repeat (first | exact Drawn0.refl _ | apply Drawn0.step)⟩

end Go.Proofs.Ytdgpkjjclngamaa.QFnRecordShift
