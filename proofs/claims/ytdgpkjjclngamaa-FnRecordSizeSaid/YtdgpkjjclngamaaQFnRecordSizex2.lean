-- Written by this session's program wip/ownprint.py.
import Derived.Test.YtdgpkjjclngamaaQFnRecordSizex0
import Derived.Test.YtdgpkjjclngamaaQFnRecordSizex1
namespace Go.Proofs.Ytdgpkjjclngamaa.QFnRecordSize
open Go.RowKit Go.Proofs.YtdgpkjjclngamaaW.PrintWords Go.Proofs.YtdgpkjjclngamaaW.PrintLast Go.Proofs.YtdgpkjjclngamaaW.PrintMore
attribute [local go_sem] max2_int min2_int max_two min_two max_three min_three max_four min_four   -- for this text's walks alone
set_option linter.unusedVariables false
set_option linter.unusedSimpArgs false

/-! ### spec_DrawRecordBytes: function 51 -/
def spec_DrawRecordBytes.f (k : Nat) (l0 : List Int) : Option (Int × Int × Bool × List Int × Bool × List Int × Int × Int) := (spec_l6Open.f l0).bind fun bt162 => ((spec_l91Record.f k bt162.1 bt162.2).bind fun bt165 => ((spec_l6Rd_pick.f k bt162.1 bt165.2.2.2.2.2.2 16).bind fun bt177 => (if bt177.1 = 0 then ((some (([(-1), 99999, 100000] : List Int) : List Int)).bind fun y179 => ((spec_l6Rd_pick.f k bt162.1 bt177.2 3).bind fun bt182 => (if 0 ≤ bt182.1 then (if bt182.1 < (y179.length : Int) then ((some (([(-1), 99999, 100000] : List Int) : List Int)).bind fun y185 => ((spec_l6Rd_pick.f k bt162.1 bt182.2 3).bind fun bt188 => (if 0 ≤ bt188.1 then (if bt188.1 < (y185.length : Int) then (some (bt165.1, bt165.2.1, bt165.2.2.1, bt165.2.2.2.1, bt165.2.2.2.2.1, bt165.2.2.2.2.2.1, rd y179 bt182.1, rd y185 bt188.1)) else (none)) else (none)))) else (none)) else (none)))) else ((spec_l6Rd_pick.f k bt162.1 bt177.2 60).bind fun bt191 => ((spec_l6Rd_pick.f k bt162.1 bt191.2 250).bind fun bt193 => (some (bt165.1, bt165.2.1, bt165.2.2.1, bt165.2.2.2.1, bt165.2.2.2.2.1, bt165.2.2.2.2.2.1, bt191.1, bt193.1)))))))
theorem spec_DrawRecordBytes.mono : ∀ a0 k, LeO (spec_DrawRecordBytes.f k a0) (spec_DrawRecordBytes.f (k + 1) a0) := by
  intro a0 k
  unfold spec_DrawRecordBytes.f
  repeat' first
      | (with_reducible exact spec_l6Rd_pick.mono _ _ _ _)
      | (with_reducible exact spec_l91Record.mono _ _ _)
      | (with_reducible exact LeO.refl _)
      | (with_reducible exact LeO.none _)
      | (with_reducible refine LeO.ite ?_ ?_)
      | (with_reducible refine LeO.bind ?_ (fun _ => ?_))
      | exact spec_l6Rd_pick.mono _ _ _ _
      | exact spec_l91Record.mono _ _ _
      | exact LeO.none _
      | refine LeO.ite ?_ ?_
      | refine LeO.bind ?_ (fun _ => ?_)
def spec_DrawRecordBytes.T4 : Bool × List (List Nat × List Nat) := (true, [([], []), ([], []), ([], []), ([2], [2]), ([1, 3], [1, 3]), ([4], [4]), ([], []), ([], []), ([7, 3], [7]), ([6, 8], [6, 8]), ([9], [9]), ([0, 8, 0], [0]), ([5, 11, 0, 1, 2, 3, 4, 5, 11], [5]), ([10, 12, 0, 1, 2, 3, 4, 5, 6, 7, 8, 9, 10, 11, 12], [10])])
def spec_DrawRecordBytes.B4 : List Nat := [0, 0, 0, 4, 14, 30, 0, 0, 140, 460, 972, 397, 2495, 8191]
theorem spec_DrawRecordBytes.tab4 : rtab .any (opsOf Try.f51 4) = spec_DrawRecordBytes.T4 := by kernel_rfl
theorem spec_DrawRecordBytes.bits4 : waitsOk spec_DrawRecordBytes.T4.2 spec_DrawRecordBytes.B4 = true := by kernel_rfl
def spec_DrawRecordBytes.T5 : Bool × List (List Nat × List Nat) := (true, [([], []), ([], []), ([1], [1]), ([], []), ([3, 2], [3]), ([0, 4, 0], [0]), ([2, 5, 0, 1, 2, 5], [2]), ([4, 6, 0, 1, 2, 3, 4, 5, 6], [4])])
def spec_DrawRecordBytes.B5 : List Nat := [0, 0, 2, 0, 14, 31, 63, 127]
theorem spec_DrawRecordBytes.tab5 : rtab .any (opsOf Try.f51 5) = spec_DrawRecordBytes.T5 := by kernel_rfl
theorem spec_DrawRecordBytes.bits5 : waitsOk spec_DrawRecordBytes.T5.2 spec_DrawRecordBytes.B5 = true := by kernel_rfl
set_option maxHeartbeats 8000000 in
set_option maxRecDepth 100000 in
theorem spec_DrawRecordBytes.calls (k : Nat) (A0 : Option Addr) (c0 : Nat) (l0 : List Int) (r1 : Int) (r2 : Int) (r3 : Bool) (r4 : List Int) (r5 : Bool) (r6 : List Int) (r7 : Int) (r8 : Int) (w : World) (hr0 : Kd.C (Kd.int .u8) w A0 l0.length l0) (hc0 : l0.length ≤ c0) (h : spec_DrawRecordBytes.f k l0 = some (r1, r2, r3, r4, r5, r6, r7, r8)) :
    Calls Try.prog 51 #[.slice A0 l0.length c0] w fun e w' => ∃ v3_ v5_ : Value, e = .returned (.tuple #[.agg #[.int .i64 r1, .int .i64 r2, .bool r3, v3_, .bool r5, v5_], .int .i64 r7, .int .i64 r8]) ∧ Kd.R (Kd.int .i64) 3 w' w.heap.size (fun k_ => some k_ ≠ (v5_ : Value).ownBlock) v3_ r4 ∧ Kd.R (Kd.int .i64) 3 w' w.heap.size (fun k_ => some k_ ≠ (v3_ : Value).ownBlock) v5_ r6 ∧ Below w.heap.size w w' := by
  have hu27 := Try.underlying27
  have HR0 := Aside0.mk hr0
  have HC0 := Aside0.mk hc0
  clear hr0 hc0
  have HB := Aside0.mk (Below.refl w.heap.size w)
  have H : ((spec_l6Open.f l0).bind fun bt162 => ((spec_l91Record.f k bt162.1 bt162.2).bind fun bt165 => ((spec_l6Rd_pick.f k bt162.1 bt165.2.2.2.2.2.2 16).bind fun bt177 => (if bt177.1 = 0 then ((some (([(-1), 99999, 100000] : List Int) : List Int)).bind fun y179 => ((spec_l6Rd_pick.f k bt162.1 bt177.2 3).bind fun bt182 => (if 0 ≤ bt182.1 then (if bt182.1 < (y179.length : Int) then ((some (([(-1), 99999, 100000] : List Int) : List Int)).bind fun y185 => ((spec_l6Rd_pick.f k bt162.1 bt182.2 3).bind fun bt188 => (if 0 ≤ bt188.1 then (if bt188.1 < (y185.length : Int) then (some (bt165.1, bt165.2.1, bt165.2.2.1, bt165.2.2.2.1, bt165.2.2.2.2.1, bt165.2.2.2.2.2.1, rd y179 bt182.1, rd y185 bt188.1)) else (none)) else (none)))) else (none)) else (none)))) else ((spec_l6Rd_pick.f k bt162.1 bt177.2 60).bind fun bt191 => ((spec_l6Rd_pick.f k bt162.1 bt191.2 250).bind fun bt193 => (some (bt165.1, bt165.2.1, bt165.2.2.1, bt165.2.2.2.1, bt165.2.2.2.2.1, bt165.2.2.2.2.2.1, bt191.1, bt193.1)))))))) = some (r1, r2, r3, r4, r5, r6, r7, r8) := h
  clear h
  replace H := Option.bind_eq_some_iff.mp H
  obtain ⟨⟨t162, t163⟩, A20, H⟩ := H
  replace H : ((spec_l91Record.f k t162 t163).bind fun bt165 => ((spec_l6Rd_pick.f k t162 bt165.2.2.2.2.2.2 16).bind fun bt177 => (if bt177.1 = 0 then ((some (([(-1), 99999, 100000] : List Int) : List Int)).bind fun y179 => ((spec_l6Rd_pick.f k t162 bt177.2 3).bind fun bt182 => (if 0 ≤ bt182.1 then (if bt182.1 < (y179.length : Int) then ((some (([(-1), 99999, 100000] : List Int) : List Int)).bind fun y185 => ((spec_l6Rd_pick.f k t162 bt182.2 3).bind fun bt188 => (if 0 ≤ bt188.1 then (if bt188.1 < (y185.length : Int) then (some (bt165.1, bt165.2.1, bt165.2.2.1, bt165.2.2.2.1, bt165.2.2.2.2.1, bt165.2.2.2.2.2.1, rd y179 bt182.1, rd y185 bt188.1)) else (none)) else (none)))) else (none)) else (none)))) else ((spec_l6Rd_pick.f k t162 bt177.2 60).bind fun bt191 => ((spec_l6Rd_pick.f k t162 bt191.2 250).bind fun bt193 => (some (bt165.1, bt165.2.1, bt165.2.2.1, bt165.2.2.2.1, bt165.2.2.2.2.1, bt165.2.2.2.2.2.1, bt191.1, bt193.1))))))) = some (r1, r2, r3, r4, r5, r6, r7, r8) := H
  have A2 := Aside0.mk A20
  clear A20
  replace H := Option.bind_eq_some_iff.mp H
  obtain ⟨⟨t165, t166, t167, t168, t171, t172, t175⟩, A30, H⟩ := H
  replace H : ((spec_l6Rd_pick.f k t162 t175 16).bind fun bt177 => (if bt177.1 = 0 then ((some (([(-1), 99999, 100000] : List Int) : List Int)).bind fun y179 => ((spec_l6Rd_pick.f k t162 bt177.2 3).bind fun bt182 => (if 0 ≤ bt182.1 then (if bt182.1 < (y179.length : Int) then ((some (([(-1), 99999, 100000] : List Int) : List Int)).bind fun y185 => ((spec_l6Rd_pick.f k t162 bt182.2 3).bind fun bt188 => (if 0 ≤ bt188.1 then (if bt188.1 < (y185.length : Int) then (some (t165, t166, t167, t168, t171, t172, rd y179 bt182.1, rd y185 bt188.1)) else (none)) else (none)))) else (none)) else (none)))) else ((spec_l6Rd_pick.f k t162 bt177.2 60).bind fun bt191 => ((spec_l6Rd_pick.f k t162 bt191.2 250).bind fun bt193 => (some (t165, t166, t167, t168, t171, t172, bt191.1, bt193.1)))))) = some (r1, r2, r3, r4, r5, r6, r7, r8) := H
  have A3 := Aside0.mk A30
  clear A30
  replace H := Option.bind_eq_some_iff.mp H
  obtain ⟨⟨t177, t178⟩, A40, H⟩ := H
  replace H : (if t177 = 0 then ((some (([(-1), 99999, 100000] : List Int) : List Int)).bind fun y179 => ((spec_l6Rd_pick.f k t162 t178 3).bind fun bt182 => (if 0 ≤ bt182.1 then (if bt182.1 < (y179.length : Int) then ((some (([(-1), 99999, 100000] : List Int) : List Int)).bind fun y185 => ((spec_l6Rd_pick.f k t162 bt182.2 3).bind fun bt188 => (if 0 ≤ bt188.1 then (if bt188.1 < (y185.length : Int) then (some (t165, t166, t167, t168, t171, t172, rd y179 bt182.1, rd y185 bt188.1)) else (none)) else (none)))) else (none)) else (none)))) else ((spec_l6Rd_pick.f k t162 t178 60).bind fun bt191 => ((spec_l6Rd_pick.f k t162 bt191.2 250).bind fun bt193 => (some (t165, t166, t167, t168, t171, t172, bt191.1, bt193.1))))) = some (r1, r2, r3, r4, r5, r6, r7, r8) := H
  have A4 := Aside0.mk A40
  clear A40
  by_cases c5 : t177 = 0
  · rw [if_pos c5] at H
    have c5b0 : (t177 == 0) = true := beq_iff_eq.mpr c5
    have c5b1 : (t177 != 0) = false := bne_eq_false_iff_eq.mpr c5
    clear c5
    obtain ⟨y179, hy179⟩ : ∃ y_ : List Int, y_ = (([(-1), 99999, 100000] : List Int)) := ⟨_, rfl⟩
    replace H : ((spec_l6Rd_pick.f k t162 t178 3).bind fun bt182 => (if 0 ≤ bt182.1 then (if bt182.1 < (y179.length : Int) then ((some (([(-1), 99999, 100000] : List Int) : List Int)).bind fun y185 => ((spec_l6Rd_pick.f k t162 bt182.2 3).bind fun bt188 => (if 0 ≤ bt188.1 then (if bt188.1 < (y185.length : Int) then (some (t165, t166, t167, t168, t171, t172, rd y179 bt182.1, rd y185 bt188.1)) else (none)) else (none)))) else (none)) else (none))) = some (r1, r2, r3, r4, r5, r6, r7, r8) := by first | (rw [hy179]; with_reducible exact H) | (have H2_ := (Option.bind_some _ _).symm.trans H; rw [hy179]; with_reducible exact H2_) | (have H2_ := (Option.bind_some _ _).symm.trans H; with_reducible exact H2_) | with_reducible exact H | (rw [hy179]; exact H) | exact H
    have Ny179 := Aside0.mk hy179
    clear hy179
    replace H := Option.bind_eq_some_iff.mp H
    obtain ⟨⟨t182, t183⟩, A60, H⟩ := H
    replace H : (if 0 ≤ t182 then (if t182 < (y179.length : Int) then ((some (([(-1), 99999, 100000] : List Int) : List Int)).bind fun y185 => ((spec_l6Rd_pick.f k t162 t183 3).bind fun bt188 => (if 0 ≤ bt188.1 then (if bt188.1 < (y185.length : Int) then (some (t165, t166, t167, t168, t171, t172, rd y179 t182, rd y185 bt188.1)) else (none)) else (none)))) else (none)) else (none)) = some (r1, r2, r3, r4, r5, r6, r7, r8) := H
    have A6 := Aside0.mk A60
    clear A60
    by_cases c7 : 0 ≤ t182
    · rw [if_pos c7] at H
      have c7b0 : decide (0 ≤ t182) = true := decide_eq_true c7
      clear c7
      by_cases c8 : t182 < (y179.length : Int)
      · rw [if_pos c8] at H
        have c8b0 : decide (t182 < (y179.length : Int)) = true := decide_eq_true c8
        clear c8
        obtain ⟨y185, hy185⟩ : ∃ y_ : List Int, y_ = (([(-1), 99999, 100000] : List Int)) := ⟨_, rfl⟩
        replace H : ((spec_l6Rd_pick.f k t162 t183 3).bind fun bt188 => (if 0 ≤ bt188.1 then (if bt188.1 < (y185.length : Int) then (some (t165, t166, t167, t168, t171, t172, rd y179 t182, rd y185 bt188.1)) else (none)) else (none))) = some (r1, r2, r3, r4, r5, r6, r7, r8) := by first | (rw [hy185]; with_reducible exact H) | (have H2_ := (Option.bind_some _ _).symm.trans H; rw [hy185]; with_reducible exact H2_) | (have H2_ := (Option.bind_some _ _).symm.trans H; with_reducible exact H2_) | with_reducible exact H | (rw [hy185]; exact H) | exact H
        have Ny185 := Aside0.mk hy185
        clear hy185
        replace H := Option.bind_eq_some_iff.mp H
        obtain ⟨⟨t188, t189⟩, A90, H⟩ := H
        replace H : (if 0 ≤ t188 then (if t188 < (y185.length : Int) then (some (t165, t166, t167, t168, t171, t172, rd y179 t182, rd y185 t188)) else (none)) else (none)) = some (r1, r2, r3, r4, r5, r6, r7, r8) := H
        have A9 := Aside0.mk A90
        clear A90
        by_cases c10 : 0 ≤ t188
        · rw [if_pos c10] at H
          have c10b0 : decide (0 ≤ t188) = true := decide_eq_true c10
          clear c10
          by_cases c11 : t188 < (y185.length : Int)
          · rw [if_pos c11] at H
            have c11b0 : decide (t188 < (y185.length : Int)) = true := decide_eq_true c11
            clear c11
            simp only [Option.some.injEq, Prod.mk.injEq] at H
            obtain ⟨rfl, rfl, rfl, rfl, rfl, rfl, rfl, rfl⟩ := H
            go_enter Try.func51, Try.ntmps51
            try go_wp2_with (first | ((with_reducible refine gate_dst (N := 2) rfl ?_); refine box_event ?hg (N := 2) ?hd (cs := #[.int .i64 0, .int .i64 0, .bool false, .slice none 0 0, .bool false, .slice none 0 0]) (t := 27) ?hr ?_; (case hd => rfl); (case hg => rfl); (case hr => first | (go_simp; done) | (go_simp; rfl)); intro gb161 hg w12 hbox hb; have n0_ := Aside0.mk (below_step (by repeat (first | (with_reducible first | exact HB.out | apply below_alloc | apply pw_below_drewN | apply below_drew1) | exact HB.out)) hb); have n1_ := Aside0.mk (hbox); have n2_ := Aside0.mk ((by rw [hg]; exact (below_size (by repeat (first | (with_reducible first | exact HB.out | apply below_alloc | apply pw_below_drewN | apply below_drew1) | exact HB.out))) : w.heap.size ≤ gb161)); have n3_ := Aside0.mk ((by rw [hg]; exact (below_size (by repeat (first | (with_reducible first | exact HB.out | apply below_alloc | apply pw_below_drewN | apply below_drew1) | exact HB.out))) : w.heap.size ≤ gb161)); clear HB; have HB := n0_; have BK161 := n1_; have GW161 := n2_; have GE161 := n3_; clear n0_ n1_ n2_ n3_; clear hb hbox hg) | ((with_reducible refine gate_callee (f := 59) rfl ?_); refine goesL_ (some 8) rfl rfl Try.func59 (by kernel_rfl) rfl #[.slice A0 l0.length c0] rfl (by (try simp only [List.map_toArray, List.map_cons, List.map_nil]); first | done | rfl | (simp only [List.length_drop, List.length_take]; rfl)) ?_; (with_reducible refine (spec_l6Open.calls _ _ l0 t162 t163 w _ ?side1 ?side2 ?side3 A2.out).mono ?_); (case side1 => repeat (first | (with_reducible first | exact HB.out | apply below_alloc | apply pw_below_drewN | apply below_drew1 | refine below_set ?_ GE161.out) | exact HB.out)); (case side2 => exact HR0.out); (case side3 => exact HC0.out); rintro e w13 ⟨g164, rfl, hi, hb, hb2⟩; refine ⟨_, rfl, ?_⟩; have n0_ := Aside0.mk (blk_below (g := gb161) (o := .cells #[.int .i64 0, .int .i64 0, .bool false, .slice none 0 0, .bool false, .slice none 0 0] 27 (0, 0)) (by (with_reducible repeat (first | refine blk_drewN ?_ _ | refine blk_drew ?_ | refine blk_alloc ?_ _)); exact BK161.out) hb2); have n1_ := Aside0.mk (hb); have n2_ := Aside0.mk (hi); have n3_ := Aside0.mk (IsS91.ne_blk hi (blk_below (g := gb161) (o := .cells #[.int .i64 0, .int .i64 0, .bool false, .slice none 0 0, .bool false, .slice none 0 0] 27 (0, 0)) (by (with_reducible repeat (first | refine blk_drewN ?_ _ | refine blk_drew ?_ | refine blk_alloc ?_ _)); exact BK161.out) hb2) (by decide)); have n4_ := Aside0.mk (Ne.symm (IsS91.ne_blk hi (blk_below (g := gb161) (o := .cells #[.int .i64 0, .int .i64 0, .bool false, .slice none 0 0, .bool false, .slice none 0 0] 27 (0, 0)) (by (with_reducible repeat (first | refine blk_drewN ?_ _ | refine blk_drew ?_ | refine blk_alloc ?_ _)); exact BK161.out) hb2) (by decide))); clear BK161; clear HB; have BK161 := n0_; have HB := n1_; have HI164 := n2_; have NB164_161 := n3_; have NB161_164 := n4_; clear n0_ n1_ n2_ n3_ n4_; (try clear hb); (try clear hb2); (try clear hk); (try clear hi)) | ((with_reducible refine gate_callee (f := 85) rfl ?_); refine goesL_ (some 10) rfl rfl Try.func85 (by kernel_rfl) rfl #[.pointer (some ⟨g164, 0, none⟩)] rfl (by (try simp only [List.map_toArray, List.map_cons, List.map_nil]); first | done | rfl | (simp only [List.length_drop, List.length_take]; rfl)) ?_; (with_reducible refine (spec_l91Record.calls k g164 t162 t163 t165 t166 t167 t168 t171 t172 t175 w _ ?side1 ?side2 A3.out).mono ?_); (case side1 => repeat (first | (with_reducible first | exact HI164.out | apply IsS91.alloc | apply IsS91.drewN | apply IsS91.drew | apply IsS91.set_1 | refine IsS91.far ?_ NB164_161.out _) | exact HI164.out)); (case side2 => repeat (first | (with_reducible first | exact HB.out | apply below_alloc | apply pw_below_drewN | apply below_drew1 | refine below_set ?_ (IsS91.ge HI164.out) | refine below_set ?_ GE161.out) | exact HB.out)); rintro e w14 ⟨v169, v173, rfl, ho0, ho1, hi, hb, hk⟩; refine ⟨_, rfl, ?_⟩; have n0_ := Aside0.mk (KeepBut.blk hk (g' := gb161) (o := .cells #[.int .i64 0, .int .i64 0, .bool false, .slice none 0 0, .bool false, .slice none 0 0] 27 (0, 0)) (by (with_reducible repeat (first | refine blk_drewN ?_ _ | refine blk_drew ?_ | refine blk_alloc ?_ _)); exact BK161.out) NB161_164.out (by simp)); have n1_ := Aside0.mk (Kd.R_lower ho0 (below_size (by repeat (first | (with_reducible first | exact HB.out | apply below_alloc | apply pw_below_drewN | apply below_drew1 | refine below_set ?_ (IsS91.ge HI164.out) | refine below_set ?_ GE161.out) | exact HB.out)))); have n2_ := Aside0.mk (Kd.R_lower ho1 (below_size (by repeat (first | (with_reducible first | exact HB.out | apply below_alloc | apply pw_below_drewN | apply below_drew1 | refine below_set ?_ (IsS91.ge HI164.out) | refine below_set ?_ GE161.out) | exact HB.out)))); have n3_ := Aside0.mk (hb); have n4_ := Aside0.mk (hi); clear BK161; clear HB; clear HI164; have BK161 := n0_; have HO170 := n1_; have HO174 := n2_; have HB := n3_; have HI164 := n4_; clear n0_ n1_ n2_ n3_ n4_; (try clear hb); (try clear hb2); (try clear hk); (try clear hi); (try clear ho0); (try clear ho1)) | ((with_reducible refine gate_dst (N := 6) rfl ?_); refine box_event ?hg (N := 6) ?hd (cs := #[.int .i64 0, .int .i64 0, .bool false, .slice none 0 0, .bool false, .slice none 0 0]) (t := 27) ?hr ?_; (case hd => rfl); (case hg => rfl); (case hr => first | (go_simp; done) | (go_simp; rfl)); intro gb176 hg w15 hbox hb; have n0_ := Aside0.mk (Kd.R_below (by (with_reducible repeat (first | apply Kd.R_alloc | apply Kd.R_drewN | apply Kd.R_drew)); exact HO170.out) hb); have n1_ := Aside0.mk (Kd.R_below (by (with_reducible repeat (first | apply Kd.R_alloc | apply Kd.R_drewN | apply Kd.R_drew)); exact HO174.out) hb); have n2_ := Aside0.mk (blk_below (g := gb161) (o := .cells #[.int .i64 0, .int .i64 0, .bool false, .slice none 0 0, .bool false, .slice none 0 0] 27 (0, 0)) (by (with_reducible repeat (first | refine blk_drewN ?_ _ | refine blk_drew ?_ | refine blk_alloc ?_ _)); exact BK161.out) hb); have n3_ := Aside0.mk (IsS91.below (by repeat (first | (with_reducible first | exact HI164.out | apply IsS91.alloc | apply IsS91.drewN | apply IsS91.drew | apply IsS91.set_1 | refine IsS91.far ?_ NB164_161.out _) | exact HI164.out)) hb); have n4_ := Aside0.mk (below_step (by repeat (first | (with_reducible first | exact HB.out | apply below_alloc | apply pw_below_drewN | apply below_drew1 | refine below_set ?_ (IsS91.ge HI164.out) | refine below_set ?_ GE161.out) | exact HB.out)) hb); have n5_ := Aside0.mk (hbox); have n6_ := Aside0.mk ((by rw [hg]; exact (below_size (by repeat (first | (with_reducible first | exact HB.out | apply below_alloc | apply pw_below_drewN | apply below_drew1 | refine below_set ?_ (IsS91.ge HI164.out) | refine below_set ?_ GE161.out) | exact HB.out))) : w.heap.size ≤ gb176)); have n7_ := Aside0.mk ((by rw [hg]; exact (below_size (by repeat (first | (with_reducible first | exact HB.out | apply below_alloc | apply pw_below_drewN | apply below_drew1 | refine below_set ?_ (IsS91.ge HI164.out) | refine below_set ?_ GE161.out) | exact HB.out))) : w.heap.size ≤ gb176)); have n8_ := Aside0.mk ((by rw [hg]; exact Nat.ne_of_lt (blk_lt (g := gb161) (o := .cells #[.int .i64 0, .int .i64 0, .bool false, .slice none 0 0, .bool false, .slice none 0 0] 27 (0, 0)) (by (with_reducible repeat (first | refine blk_drewN ?_ _ | refine blk_drew ?_ | refine blk_alloc ?_ _)); exact BK161.out)) : gb161 ≠ gb176)); have n9_ := Aside0.mk ((by rw [hg]; exact Nat.ne_of_gt (blk_lt (g := gb161) (o := .cells #[.int .i64 0, .int .i64 0, .bool false, .slice none 0 0, .bool false, .slice none 0 0] 27 (0, 0)) (by (with_reducible repeat (first | refine blk_drewN ?_ _ | refine blk_drew ?_ | refine blk_alloc ?_ _)); exact BK161.out)) : gb176 ≠ gb161)); have n10_ := Aside0.mk ((by rw [hg]; exact Nat.ne_of_lt (IsS91.lt (show IsS91 w _ g164 t162 t175 from by repeat (first | (with_reducible first | exact HI164.out | apply IsS91.alloc | apply IsS91.drewN | apply IsS91.drew | apply IsS91.set_1 | refine IsS91.far ?_ NB164_161.out _) | exact HI164.out))) : g164 ≠ gb176)); have n11_ := Aside0.mk ((by rw [hg]; exact Nat.ne_of_gt (IsS91.lt (show IsS91 w _ g164 t162 t175 from by repeat (first | (with_reducible first | exact HI164.out | apply IsS91.alloc | apply IsS91.drewN | apply IsS91.drew | apply IsS91.set_1 | refine IsS91.far ?_ NB164_161.out _) | exact HI164.out))) : gb176 ≠ g164)); clear HO170; clear HO174; clear BK161; clear HI164; clear HB; have HO170 := n0_; have HO174 := n1_; have BK161 := n2_; have HI164 := n3_; have HB := n4_; have BK176 := n5_; have GW176 := n6_; have GE176 := n7_; have NB161_176 := n8_; have NB176_161 := n9_; have NB164_176 := n10_; have NB176_164 := n11_; clear n0_ n1_ n2_ n3_ n4_ n5_ n6_ n7_ n8_ n9_ n10_ n11_; clear hb hbox hg; have hnb16 := NB176_161.out; have hnc16 := NB161_176.out; have hnb17 := NB176_164.out; have hnc17 := NB164_176.out; have hcz18_0 : w15.cell? ⟨gb176, 0, none⟩ = some (.int .i64 0) := (blk_cell BK176.out 0).trans rfl; have hcz18_1 : w15.cell? ⟨gb176, 1, none⟩ = some (.int .i64 0) := (blk_cell BK176.out 1).trans rfl; have hcz18_2 : w15.cell? ⟨gb176, 2, none⟩ = some (.bool false) := (blk_cell BK176.out 2).trans rfl; have hcz18_3 : w15.cell? ⟨gb176, 3, none⟩ = some (.slice none 0 0) := (blk_cell BK176.out 3).trans rfl; have hcz18_4 : w15.cell? ⟨gb176, 4, none⟩ = some (.bool false) := (blk_cell BK176.out 4).trans rfl; have hcz18_5 : w15.cell? ⟨gb176, 5, none⟩ = some (.slice none 0 0) := (blk_cell BK176.out 5).trans rfl; have hfz18_0 := blk_frozen BK176.out 0; have hfz18_1 := blk_frozen BK176.out 1; have hfz18_2 := blk_frozen BK176.out 2; have hfz18_3 := blk_frozen BK176.out 3; have hfz18_4 := blk_frozen BK176.out 4; have hfz18_5 := blk_frozen BK176.out 5; obtain ⟨Ao19, co19, eo19⟩ := Kd.R_slice HO170.out; subst eo19; obtain ⟨Ao20, co20, eo20⟩ := Kd.R_slice HO174.out; subst eo20) | ((with_reducible refine gate_callee (f := 65) rfl ?_); refine goesL_ (some 12) rfl rfl Try.func65 (by kernel_rfl) rfl #[.pointer (some ⟨g164, 0, none⟩), .int .i64 16] rfl (by (try simp only [List.map_toArray, List.map_cons, List.map_nil]); first | done | rfl | (simp only [List.length_drop, List.length_take]; rfl)) ?_; (with_reducible refine (spec_l6Rd_pick.calls k g164 t162 t175 16 t177 t178 w _ ?side1 ?side2 A4.out).mono ?_); (case side1 => repeat (first | (with_reducible first | exact HI164.out | apply IsS91.alloc | apply IsS91.drewN | apply IsS91.drew | apply IsS91.set_1 | refine IsS91.far ?_ NB164_161.out _ | refine IsS91.far ?_ NB164_176.out _) | exact HI164.out)); (case side2 => repeat (first | (with_reducible first | exact HB.out | apply below_alloc | apply pw_below_drewN | apply below_drew1 | refine below_set ?_ (IsS91.ge HI164.out) | refine below_set ?_ GE161.out | refine below_set ?_ GE176.out) | exact HB.out)); rintro e w21 ⟨rfl, hi, hb, hk⟩; refine ⟨_, rfl, ?_⟩; have n0_ := Aside0.mk (KeepBut.blk hk (g' := gb161) (o := .cells #[.int .i64 0, .int .i64 0, .bool false, .slice none 0 0, .bool false, .slice none 0 0] 27 (0, 0)) (by (with_reducible repeat (first | refine blk_drewN ?_ _ | refine blk_drew ?_ | refine blk_alloc ?_ _)); refine blk_far ?_ NB161_176.out _; (with_reducible repeat (first | refine blk_drewN ?_ _ | refine blk_drew ?_ | refine blk_alloc ?_ _)); refine blk_far ?_ NB161_176.out _; (with_reducible repeat (first | refine blk_drewN ?_ _ | refine blk_drew ?_ | refine blk_alloc ?_ _)); refine blk_far ?_ NB161_176.out _; (with_reducible repeat (first | refine blk_drewN ?_ _ | refine blk_drew ?_ | refine blk_alloc ?_ _)); refine blk_far ?_ NB161_176.out _; (with_reducible repeat (first | refine blk_drewN ?_ _ | refine blk_drew ?_ | refine blk_alloc ?_ _)); refine blk_far ?_ NB161_176.out _; (with_reducible repeat (first | refine blk_drewN ?_ _ | refine blk_drew ?_ | refine blk_alloc ?_ _)); refine blk_far ?_ NB161_176.out _; (with_reducible repeat (first | refine blk_drewN ?_ _ | refine blk_drew ?_ | refine blk_alloc ?_ _)); exact BK161.out) NB161_164.out (by simp)); have n1_ := Aside0.mk (Kd.R_mono (Kd.R_keep (IsS91.apart (show IsS91 w _ g164 t162 t175 from by repeat (first | (with_reducible first | exact HI164.out | apply IsS91.alloc | apply IsS91.drewN | apply IsS91.drew | apply IsS91.set_1 | refine IsS91.far ?_ NB164_161.out _ | refine IsS91.far ?_ NB164_176.out _) | exact HI164.out)) (by (with_reducible repeat (first | apply Kd.R_alloc | apply Kd.R_drewN | apply Kd.R_drew)); exact (Kd.R_mono (Kd.R_far (p := ⟨gb176, 5, none⟩) (Kd.R_far (p := ⟨gb176, 4, none⟩) (Kd.R_far (p := ⟨gb176, 3, none⟩) (Kd.R_far (p := ⟨gb176, 2, none⟩) (Kd.R_far (p := ⟨gb176, 1, none⟩) (Kd.R_far (p := ⟨gb176, 0, none⟩) (Kd.R_types HO170.out BK176.out (by decide)) (fun _ hk => hk.2) (.int .i64 t165)) (fun _ hk => hk.2) (.int .i64 t166)) (fun _ hk => hk.2) (.bool t167)) (fun _ hk => hk.2) (.slice Ao19 t168.length co19)) (fun _ hk => hk.2) (.bool t171)) (fun _ hk => hk.2) (.slice Ao20 t172.length co20)) (fun _ h_ => h_.1))) (by decide)) hk (fun _ h => h.2)) (fun _ h => h.1)); have n2_ := Aside0.mk (Kd.R_mono (Kd.R_keep (IsS91.apart (show IsS91 w _ g164 t162 t175 from by repeat (first | (with_reducible first | exact HI164.out | apply IsS91.alloc | apply IsS91.drewN | apply IsS91.drew | apply IsS91.set_1 | refine IsS91.far ?_ NB164_161.out _ | refine IsS91.far ?_ NB164_176.out _) | exact HI164.out)) (by (with_reducible repeat (first | apply Kd.R_alloc | apply Kd.R_drewN | apply Kd.R_drew)); exact (Kd.R_mono (Kd.R_far (p := ⟨gb176, 5, none⟩) (Kd.R_far (p := ⟨gb176, 4, none⟩) (Kd.R_far (p := ⟨gb176, 3, none⟩) (Kd.R_far (p := ⟨gb176, 2, none⟩) (Kd.R_far (p := ⟨gb176, 1, none⟩) (Kd.R_far (p := ⟨gb176, 0, none⟩) (Kd.R_types HO174.out BK176.out (by decide)) (fun _ hk => hk.2) (.int .i64 t165)) (fun _ hk => hk.2) (.int .i64 t166)) (fun _ hk => hk.2) (.bool t167)) (fun _ hk => hk.2) (.slice Ao19 t168.length co19)) (fun _ hk => hk.2) (.bool t171)) (fun _ hk => hk.2) (.slice Ao20 t172.length co20)) (fun _ h_ => h_.1))) (by decide)) hk (fun _ h => h.2)) (fun _ h => h.1)); have n3_ := Aside0.mk (KeepBut.blk hk (g' := gb176) (o := .cells #[.int .i64 t165, .int .i64 t166, .bool t167, .slice Ao19 t168.length co19, .bool t171, .slice Ao20 t172.length co20] 27 (0, 0)) (by (with_reducible repeat (first | refine blk_drewN ?_ _ | refine blk_drew ?_ | refine blk_alloc ?_ _)); refine blk_put (cs := #[.int .i64 t165, .int .i64 t166, .bool t167, .slice Ao19 t168.length co19, .bool t171, .slice none 0 0]) ?_ 5 _ rfl; (with_reducible repeat (first | refine blk_drewN ?_ _ | refine blk_drew ?_ | refine blk_alloc ?_ _)); refine blk_put (cs := #[.int .i64 t165, .int .i64 t166, .bool t167, .slice Ao19 t168.length co19, .bool false, .slice none 0 0]) ?_ 4 _ rfl; (with_reducible repeat (first | refine blk_drewN ?_ _ | refine blk_drew ?_ | refine blk_alloc ?_ _)); refine blk_put (cs := #[.int .i64 t165, .int .i64 t166, .bool t167, .slice none 0 0, .bool false, .slice none 0 0]) ?_ 3 _ rfl; (with_reducible repeat (first | refine blk_drewN ?_ _ | refine blk_drew ?_ | refine blk_alloc ?_ _)); refine blk_put (cs := #[.int .i64 t165, .int .i64 t166, .bool false, .slice none 0 0, .bool false, .slice none 0 0]) ?_ 2 _ rfl; (with_reducible repeat (first | refine blk_drewN ?_ _ | refine blk_drew ?_ | refine blk_alloc ?_ _)); refine blk_put (cs := #[.int .i64 t165, .int .i64 0, .bool false, .slice none 0 0, .bool false, .slice none 0 0]) ?_ 1 _ rfl; (with_reducible repeat (first | refine blk_drewN ?_ _ | refine blk_drew ?_ | refine blk_alloc ?_ _)); refine blk_put (cs := #[.int .i64 0, .int .i64 0, .bool false, .slice none 0 0, .bool false, .slice none 0 0]) ?_ 0 _ rfl; (with_reducible repeat (first | refine blk_drewN ?_ _ | refine blk_drew ?_ | refine blk_alloc ?_ _)); exact BK176.out) NB176_164.out (by simp)); have n4_ := Aside0.mk (hb); have n5_ := Aside0.mk (hi); clear BK161; clear HO170; clear HO174; clear BK176; clear HB; clear HI164; have BK161 := n0_; have HO170 := n1_; have HO174 := n2_; have BK176 := n3_; have HB := n4_; have HI164 := n5_; clear n0_ n1_ n2_ n3_ n4_ n5_; (try clear hb); (try clear hb2); (try clear hk); (try clear hi)))
            have pi184 : (0 ≤ (t182 : Int)) = True := eq_true (of_decide_eq_true (by first | (with_reducible assumption) | assumption))
            have qi184 : (t182 < (y179.length : Int)) = True := eq_true (of_decide_eq_true (by first | (with_reducible assumption) | assumption))
            have pi190 : (0 ≤ (t188 : Int)) = True := eq_true (of_decide_eq_true (by first | (with_reducible assumption) | assumption))
            have qi190 : (t188 < (y185.length : Int)) = True := eq_true (of_decide_eq_true (by first | (with_reducible assumption) | assumption))
            have n0_ := Aside0.mk (Kd.R_drew HO170.out)
            have n1_ := Aside0.mk (Kd.R_drew HO174.out)
            have n2_ := Aside0.mk (blk_drew BK161.out)
            have n3_ := Aside0.mk (blk_drew BK176.out)
            have n4_ := Aside0.mk (IsS91.drew HI164.out)
            have n5_ := Aside0.mk (below_drew1 HB.out)
            clear HO170
            clear HO174
            clear BK161
            clear BK176
            clear HI164
            clear HB
            have HO170 := n0_
            have HO174 := n1_
            have BK161 := n2_
            have BK176 := n3_
            have HI164 := n4_
            have HB := n5_
            clear n0_ n1_ n2_ n3_ n4_ n5_
            refine start_ (n := 14) (S := fun w' => True) (ds := []) #[false, false, false, false, false, false, false, false, false, false, false, false, false, false] (by kernel_rfl) rfl rfl trivial (fun hHeld => ?_); refine with_tabW spec_DrawRecordBytes.tab4 spec_DrawRecordBytes.bits4 (fun HT_ HW_ => ?_)
            generalize w21.drew = w22 at HO170 HO174 BK161 BK176 HI164 HB hHeld ⊢
            refine pure_ (i := 2) (N := some 16) (v := ?_) (a' := ?_) #[false, false, true, false, false, false, false, false, false, false, false, false, false, false] rfl rfl (any_of HT_.out (by kernel_rfl)) (fun _ _ _ h => h) (Or.inl ⟨by rfl, ?_⟩) ?_ ?_
            rotate_left
            · intro w'
              go_simp
              with_reducible rfl
            rotate_left
            · simp only [Act.put, List.setIfInBounds_toArray, List.set_cons_zero, List.set_cons_succ, i64_w, i32_w]
              rfl
            refine pure_ (i := 7) (N := some 21) (v := ?_) (a' := ?_) #[false, false, true, false, false, false, false, true, false, false, false, false, false, false] rfl rfl (any_of HT_.out (by kernel_rfl)) (fun _ _ _ h => h) (Or.inl ⟨by rfl, ?_⟩) ?_ ?_
            rotate_left
            · intro w'
              go_simp
              with_reducible rfl
            rotate_left
            · simp only [Act.put, List.setIfInBounds_toArray, List.set_cons_zero, List.set_cons_succ, i64_w, i32_w]
              rfl
            refine inv_at [0, 1, 3, 4, 5, 6, 8, 9, 10, 11, 12, 13] (fun a0_ b a w' => ∃ (v180 : Value) (adz_v180 : Addr) (v186 : Value) (adz_v186 : Addr) (m4_ : Value) (m9_ : Value), a = putSel a0_ b [(0, 14, .agg #[.int .i64 t165, .int .i64 t166, .bool t167, .slice Ao19 t168.length co19, .bool t171, .slice Ao20 t172.length co20]), (1, 15, v180), (3, 17, .int .i64 t182), (4, 18, m4_), (5, 19, .int .i64 (rd y179 t182)), (6, 20, v186), (8, 22, .int .i64 t188), (9, 23, m9_), (10, 24, .int .i64 (rd y185 t188)), (12, 3, .int .i64 (rd y179 t182)), (13, 4, .int .i64 (rd y185 t188))] ∧ (Kd.R (Kd.int .i64) 3 w' w.heap.size (fun k_ => some k_ ≠ (.slice Ao20 t172.length co20 : Value).ownBlock) (.slice Ao19 t168.length co19) t168) ∧ (Kd.R (Kd.int .i64) 3 w' w.heap.size (fun k_ => some k_ ≠ (.slice Ao19 t168.length co19 : Value).ownBlock) (.slice Ao20 t172.length co20) t172) ∧ (b 11 = false → w'.heap[gb161]? = some (.cells #[.int .i64 0, .int .i64 0, .bool false, .slice none 0 0, .bool false, .slice none 0 0] 27 (0, 0))) ∧ (w'.heap[gb176]? = some (.cells #[.int .i64 t165, .int .i64 t166, .bool t167, .slice Ao19 t168.length co19, .bool t171, .slice Ao20 t172.length co20] 27 (0, 0))) ∧ (b 3 = false → IsS91 w w' g164 t162 t178) ∧ (Below w.heap.size w w') ∧ (b 1 = true → Kd.R (Kd.int .i64) 3 w' w.heap.size (fun k_ => some k_ ≠ (.slice Ao19 t168.length co19 : Value).ownBlock ∧ some k_ ≠ (.slice Ao20 t172.length co20 : Value).ownBlock) v180 y179) ∧ (b 1 = true → ∃ c_, (v180 : Value) = .slice (some adz_v180) y179.length c_) ∧ (b 3 = true → b 8 = false → IsS91 w w' g164 t162 t183) ∧ (b 6 = true → Kd.R (Kd.int .i64) 3 w' w.heap.size (fun k_ => some k_ ≠ (.slice Ao19 t168.length co19 : Value).ownBlock ∧ some k_ ≠ (.slice Ao20 t172.length co20 : Value).ownBlock) v186 y185) ∧ (b 6 = true → ∃ c_, (v186 : Value) = .slice (some adz_v186) y185.length c_) ∧ (b 8 = true → IsS91 w w' g164 t162 t189) ∧ (b 11 = true → w'.heap[gb161]? = some (.cells #[.int .i64 t165, .int .i64 t166, .bool t167, .slice Ao19 t168.length co19, .bool t171, .slice Ao20 t172.length co20] 27 (0, 0))) ∧ (b 4 = true → (m4_ : Value) = .pointer (some (adz_v180.add (t182).toNat))) ∧ (b 9 = true → (m9_ : Value) = .pointer (some (adz_v186.add (t188).toNat)))) HT_.out HW_.out (by kernel_rfl) (by kernel_rfl) ?_ ?_ ?_
            · exact ⟨.bool false, ⟨0, 0, none⟩, .bool false, ⟨0, 0, none⟩, .bool false, .bool false, by simp only [putSel, Bool.false_eq_true, if_false], HO170.out, HO174.out, fun _ => BK161.out, BK176.out, fun _ => HI164.out, HB.out, fun h_ => absurd h_ (by decide), fun h_ => absurd h_ (by decide), fun h_ => absurd h_ (by decide), fun h_ => absurd h_ (by decide), fun h_ => absurd h_ (by decide), fun h_ => absurd h_ (by decide), fun h_ => absurd h_ (by decide), fun h_ => absurd h_ (by decide), fun h_ => absurd h_ (by decide)⟩
            · skip
              clear BK161 BK176 HB HI164 HO170 HO174
              refine steps_cons ?_ ?_
              · rintro b a w' ⟨v180, adz_v180, v186, adz_v186, m4_, m9_, ha, Q_HO170, Q_HO174, Q_BK161, Q_BK176, Q_HI164, Q_HB, Q_HO181, Q_HA_HO181, Q_HI164_e3, Q_HO187, Q_HA_HO187, Q_HI164_e8, Q_BK161_e11, Q_X4_, Q_X9_⟩ hb_ hon hoff
                refine ⟨_, rfl, fun K hK => ?_⟩
                have e6 : a.tmps[6]? = some (.pointer (some ⟨gb176, 0, none⟩)) := by rw [ha]; exact (putSel_off rfl).trans rfl
                replace ha := Aside0.mk ha
                have HO170 := Aside0.mk Q_HO170
                have HO174 := Aside0.mk Q_HO174
                have BK161 := Aside0.mk (Q_BK161 (hoff 11 (by kernel_rfl)))
                have BK176 := Aside0.mk Q_BK176
                have HB := Aside0.mk Q_HB
                have hc0_ : w'.cell? ⟨gb176, 0, none⟩ = some (.int .i64 t165) := (blk_cell BK176.out 0).trans rfl
                have hc1_ : w'.cell? ⟨gb176, 1, none⟩ = some (.int .i64 t166) := (blk_cell BK176.out 1).trans rfl
                have hc2_ : w'.cell? ⟨gb176, 2, none⟩ = some (.bool t167) := (blk_cell BK176.out 2).trans rfl
                have hc3_ : w'.cell? ⟨gb176, 3, none⟩ = some (.slice Ao19 t168.length co19) := (blk_cell BK176.out 3).trans rfl
                have hc4_ : w'.cell? ⟨gb176, 4, none⟩ = some (.bool t171) := (blk_cell BK176.out 4).trans rfl
                have hc5_ : w'.cell? ⟨gb176, 5, none⟩ = some (.slice Ao20 t172.length co20) := (blk_cell BK176.out 5).trans rfl
                refine value_ (w1 := w') (v := .agg #[.int .i64 t165, .int .i64 t166, .bool t167, .slice Ao19 t168.length co19, .bool t171, .slice Ao20 t172.length co20]) (by rfl) rfl ?_ ?_
                · go_simp
                  (try simp only [i64_w])
                  try rfl
                refine hK.out _ _ ⟨v180, adz_v180, v186, adz_v186, m4_, m9_, (by rw [ha.out]; exact putSel_upk 0 hb_ rfl rfl rfl), Q_HO170, Q_HO174, Q_BK161, Q_BK176, Q_HI164, Q_HB, Q_HO181, Q_HA_HO181, Q_HI164_e3, Q_HO187, Q_HA_HO187, Q_HI164_e8, fun h0_ => absurd ((hoff 11 (by kernel_rfl)).symm.trans h0_) (by decide), Q_X4_, Q_X9_⟩
              refine steps_cons ?_ ?_
              · rintro b a w' ⟨v180, adz_v180, v186, adz_v186, m4_, m9_, ha, Q_HO170, Q_HO174, Q_BK161, Q_BK176, Q_HI164, Q_HB, Q_HO181, Q_HA_HO181, Q_HI164_e3, Q_HO187, Q_HA_HO187, Q_HI164_e8, Q_BK161_e11, Q_X4_, Q_X9_⟩ hb_ hon hoff
                refine ⟨_, rfl, fun K hK => ?_⟩
                replace ha := Aside0.mk ha
                have HO170 := Aside0.mk Q_HO170
                have HO174 := Aside0.mk Q_HO174
                have BK176 := Aside0.mk Q_BK176
                have HB := Aside0.mk Q_HB
                refine Kd.R_lit_step (Kd.int .i64) _ 3 ?hg (N := 15) ?hd (xs := ([(-1), 99999, 100000] : List Int)) (inner := [.int .i64 (-1), .int .i64 99999, .int .i64 100000]) (ok := fun _ => True) (okp := fun _ => True) ?hr ?hp (fun _ hk => hk) trivial (Below.refl _ _) (Nat.le_refl _) (by simp) ?_; (case hd => rfl); (case hg => rfl); (case hr => first | (go_simp; done) | (go_simp; rfl)); (case hp => exact (Reps.one (show Kd.M (Kd.int .i64) _ _ _ (-1) [.int .i64 (-1)] from rfl) (Reps.one (show Kd.M (Kd.int .i64) _ _ _ 99999 [.int .i64 99999] from rfl) (Reps.one (show Kd.M (Kd.int .i64) _ _ _ 100000 [.int .i64 100000] from rfl) (Reps.none _ _)))))
                intro v180 w23 ho24 hb hg_ hnew_
                clear hg_ hnew_
                (first | rw [← Ny179.out] at ho24 | (simp only [Int.reduceToNat] at ho24; rw [← Ny179.out] at ho24))
                have n0_ := Aside0.mk (Kd.R_elder' (by (with_reducible repeat (first | apply Kd.R_alloc | apply Kd.R_drewN | apply Kd.R_drew)); exact HO170.out) (Kd.R_base ho24) hb)
                have n1_ := Aside0.mk (Kd.R_elder' (by (with_reducible repeat (first | apply Kd.R_alloc | apply Kd.R_drewN | apply Kd.R_drew)); exact HO174.out) (Kd.R_base ho24) hb)
                have n2_ := Aside0.mk (Kd.R_lower (Kd.R_new' (Kd.R_new' ho24 (Kd.R_lt (by (with_reducible repeat (first | apply Kd.R_alloc | apply Kd.R_drewN | apply Kd.R_drew)); exact HO170.out))) (Kd.R_lt (by (with_reducible repeat (first | apply Kd.R_alloc | apply Kd.R_drewN | apply Kd.R_drew)); exact HO174.out))) (below_size (by repeat (first | (with_reducible first | exact HB.out | apply below_alloc | apply pw_below_drewN | apply below_drew1 | refine below_set ?_ GE161.out | refine below_set ?_ GE176.out) | exact HB.out))))
                have n5_ := Aside0.mk (blk_below (g := gb176) (o := .cells #[.int .i64 t165, .int .i64 t166, .bool t167, .slice Ao19 t168.length co19, .bool t171, .slice Ao20 t172.length co20] 27 (0, 0)) (by (with_reducible repeat (first | refine blk_drewN ?_ _ | refine blk_drew ?_ | refine blk_alloc ?_ _)); exact BK176.out) hb)
                have n6_ := Aside0.mk (below_step (by repeat (first | (with_reducible first | exact HB.out | apply below_alloc | apply pw_below_drewN | apply below_drew1 | refine below_set ?_ GE161.out | refine below_set ?_ GE176.out) | exact HB.out)) hb)
                have z_BK161 := fun (h0_ : b 11 = false) => (show w23.heap[gb161]? = some (.cells #[.int .i64 0, .int .i64 0, .bool false, .slice none 0 0, .bool false, .slice none 0 0] 27 (0, 0)) from by first | exact (blk_below (g := gb161) (o := .cells #[.int .i64 0, .int .i64 0, .bool false, .slice none 0 0, .bool false, .slice none 0 0] 27 (0, 0)) (by (with_reducible repeat (first | refine blk_drewN ?_ _ | refine blk_drew ?_ | refine blk_alloc ?_ _)); exact (Q_BK161 h0_)) hb))
                have z_HI164 := fun (h0_ : b 3 = false) => (show IsS91 w w23 g164 t162 t178 from by first | exact (IsS91.below (by repeat (first | (with_reducible first | exact (Q_HI164 h0_) | apply IsS91.alloc | apply IsS91.drewN | apply IsS91.drew | apply IsS91.set_1 | refine IsS91.far ?_ NB164_161.out _ | refine IsS91.far ?_ NB164_176.out _) | exact (Q_HI164 h0_))) hb))
                have z_HI164_e3 := fun (h0_ : b 3 = true) (h1_ : b 8 = false) => (show IsS91 w w23 g164 t162 t183 from by first | exact (IsS91.below (by repeat (first | (with_reducible first | exact (Q_HI164_e3 h0_ h1_) | apply IsS91.alloc | apply IsS91.drewN | apply IsS91.drew | apply IsS91.set_1 | refine IsS91.far ?_ NB164_161.out _ | refine IsS91.far ?_ NB164_176.out _) | exact (Q_HI164_e3 h0_ h1_))) hb))
                have z_HO187 := fun (h0_ : b 6 = true) => (show Kd.R (Kd.int .i64) 3 w23 w.heap.size (fun k_ => some k_ ≠ (.slice Ao19 t168.length co19 : Value).ownBlock ∧ some k_ ≠ (.slice Ao20 t172.length co20 : Value).ownBlock) v186 y185 from by first | exact (Kd.R_elder' (by (with_reducible repeat (first | apply Kd.R_alloc | apply Kd.R_drewN | apply Kd.R_drew)); exact (Q_HO187 h0_)) (Kd.R_base ho24) hb) | exact Kd.R_mono (Kd.R_elder' (by (with_reducible repeat (first | apply Kd.R_alloc | apply Kd.R_drewN | apply Kd.R_drew)); exact (Q_HO187 h0_)) (Kd.R_base ho24) hb) (fun _ h_ => by first | trivial | exact h_ | exact h_.1))
                have z_HI164_e8 := fun (h0_ : b 8 = true) => (show IsS91 w w23 g164 t162 t189 from by first | exact (IsS91.below (by repeat (first | (with_reducible first | exact (Q_HI164_e8 h0_) | apply IsS91.alloc | apply IsS91.drewN | apply IsS91.drew | apply IsS91.set_1 | refine IsS91.far ?_ NB164_161.out _ | refine IsS91.far ?_ NB164_176.out _) | exact (Q_HI164_e8 h0_))) hb))
                have z_BK161_e11 := fun (h0_ : b 11 = true) => (show w23.heap[gb161]? = some (.cells #[.int .i64 t165, .int .i64 t166, .bool t167, .slice Ao19 t168.length co19, .bool t171, .slice Ao20 t172.length co20] 27 (0, 0)) from by first | exact (blk_below (g := gb161) (o := .cells #[.int .i64 t165, .int .i64 t166, .bool t167, .slice Ao19 t168.length co19, .bool t171, .slice Ao20 t172.length co20] 27 (0, 0)) (by (with_reducible repeat (first | refine blk_drewN ?_ _ | refine blk_drew ?_ | refine blk_alloc ?_ _)); exact (Q_BK161_e11 h0_)) hb))
                clear HO170
                clear HO174
                clear BK176
                clear HB
                have HO170 := n0_
                have HO174 := n1_
                have HO181 := n2_
                have BK176 := n5_
                have HB := n6_
                clear n0_ n1_ n2_ n5_ n6_
                clear hb ho24
                obtain ⟨Ao25, co25, eo25⟩ := Kd.R_slice HO181.out
                subst eo25
                obtain ⟨ado25, fo25, _⟩ := Kd.at_int (Kd.R_reads' HO181.out).2.2 0 (by decide) (by rw [Ny179.out]; simp)
                cases fo25
                refine hK.out _ _ ⟨.slice (some ado25) y179.length co25, ado25, v186, adz_v186, m4_, m9_, (by rw [ha.out]; exact putSel_upk 1 hb_ rfl rfl rfl), (by (with_reducible repeat (first | apply Kd.R_alloc | apply Kd.R_drewN | apply Kd.R_drew)); first | exact HO170.out | exact Kd.R_mono HO170.out (fun _ hk => hk.1)), (by (with_reducible repeat (first | apply Kd.R_alloc | apply Kd.R_drewN | apply Kd.R_drew)); first | exact HO174.out | exact Kd.R_mono HO174.out (fun _ hk => hk.1)), z_BK161, (by (with_reducible repeat (first | refine blk_drewN ?_ _ | refine blk_drew ?_ | refine blk_alloc ?_ _)); exact BK176.out), z_HI164, (by repeat (first | (with_reducible first | exact HB.out | apply below_alloc | apply pw_below_drewN | apply below_drew1 | refine below_set ?_ GE161.out | refine below_set ?_ GE176.out) | exact HB.out)), fun _ => (by (with_reducible repeat (first | apply Kd.R_alloc | apply Kd.R_drewN | apply Kd.R_drew)); exact Kd.R_mono HO181.out (fun _ hk => ⟨hk.1.2, hk.2⟩)), fun _ => ⟨_, rfl⟩, z_HI164_e3, z_HO187, Q_HA_HO187, z_HI164_e8, z_BK161_e11, fun h0_ => absurd ((hoff 4 (by kernel_rfl)).symm.trans h0_) (by decide), Q_X9_⟩
              refine steps_cons ?_ ?_
              · rintro b a w' ⟨v180, adz_v180, v186, adz_v186, m4_, m9_, ha, Q_HO170, Q_HO174, Q_BK161, Q_BK176, Q_HI164, Q_HB, Q_HO181, Q_HA_HO181, Q_HI164_e3, Q_HO187, Q_HA_HO187, Q_HI164_e8, Q_BK161_e11, Q_X4_, Q_X9_⟩ hb_ hon hoff
                refine ⟨_, rfl, fun K hK => ?_⟩
                have e16 : a.tmps[16]? = some (.pointer (some ⟨g164, 0, none⟩)) := by rw [ha]; exact (putSel_off rfl).trans rfl
                replace ha := Aside0.mk ha
                have HO170 := Aside0.mk Q_HO170
                have HO174 := Aside0.mk Q_HO174
                have BK161 := Aside0.mk (Q_BK161 (hoff 11 (by kernel_rfl)))
                have BK176 := Aside0.mk Q_BK176
                have HI164 := Aside0.mk (Q_HI164 hb_)
                have HB := Aside0.mk Q_HB
                refine goes_ Try.func65 (by kernel_rfl) rfl #[.pointer (some ⟨g164, 0, none⟩), .int .i64 3] (by rfl) rfl rfl (by first | (simp only [List.map_toArray, List.map_cons, List.map_nil, Act.eval, Array.getD_eq_getD_getElem?, Option.getD_some, e16]; done) | (simp only [List.map_toArray, List.map_cons, List.map_nil, Act.eval, Array.getD_eq_getD_getElem?, Option.getD_some, e16]; rfl)) ?_
                with_reducible refine (spec_l6Rd_pick.calls k g164 t162 t178 3 t182 t183 w _ ?side1 ?side2 A6.out).mono ?_
                (case side1 => repeat (first | (with_reducible first | exact HI164.out | apply IsS91.alloc | apply IsS91.drewN | apply IsS91.drew | apply IsS91.set_1 | refine IsS91.far ?_ NB164_161.out _ | refine IsS91.far ?_ NB164_176.out _) | exact HI164.out))
                (case side2 => repeat (first | (with_reducible first | exact HB.out | apply below_alloc | apply pw_below_drewN | apply below_drew1 | refine below_set ?_ (IsS91.ge HI164.out) | refine below_set ?_ GE161.out | refine below_set ?_ GE176.out) | exact HB.out))
                rintro e w23 ⟨rfl, hi, hb, hk⟩
                refine ⟨_, rfl, ?_⟩
                have n0_ := Aside0.mk (KeepBut.blk hk (g' := gb161) (o := .cells #[.int .i64 0, .int .i64 0, .bool false, .slice none 0 0, .bool false, .slice none 0 0] 27 (0, 0)) (by (with_reducible repeat (first | refine blk_drewN ?_ _ | refine blk_drew ?_ | refine blk_alloc ?_ _)); exact BK161.out) NB161_164.out (by simp))
                have n1_ := Aside0.mk (Kd.R_mono (Kd.R_keep (IsS91.apart (show IsS91 w _ g164 t162 t178 from by repeat (first | (with_reducible first | exact HI164.out | apply IsS91.alloc | apply IsS91.drewN | apply IsS91.drew | apply IsS91.set_1 | refine IsS91.far ?_ NB164_161.out _ | refine IsS91.far ?_ NB164_176.out _) | exact HI164.out)) (by (with_reducible repeat (first | apply Kd.R_alloc | apply Kd.R_drewN | apply Kd.R_drew)); exact HO170.out) (by decide)) hk (fun _ h => h.2)) (fun _ h => h.1))
                have n2_ := Aside0.mk (Kd.R_mono (Kd.R_keep (IsS91.apart (show IsS91 w _ g164 t162 t178 from by repeat (first | (with_reducible first | exact HI164.out | apply IsS91.alloc | apply IsS91.drewN | apply IsS91.drew | apply IsS91.set_1 | refine IsS91.far ?_ NB164_161.out _ | refine IsS91.far ?_ NB164_176.out _) | exact HI164.out)) (by (with_reducible repeat (first | apply Kd.R_alloc | apply Kd.R_drewN | apply Kd.R_drew)); exact HO174.out) (by decide)) hk (fun _ h => h.2)) (fun _ h => h.1))
                have n3_ := Aside0.mk (KeepBut.blk hk (g' := gb176) (o := .cells #[.int .i64 t165, .int .i64 t166, .bool t167, .slice Ao19 t168.length co19, .bool t171, .slice Ao20 t172.length co20] 27 (0, 0)) (by (with_reducible repeat (first | refine blk_drewN ?_ _ | refine blk_drew ?_ | refine blk_alloc ?_ _)); exact BK176.out) NB176_164.out (by simp))
                have n4_ := Aside0.mk (hb)
                have n5_ := Aside0.mk (hi)
                have z_HO181 := fun (h0_ : b 1 = true) => (show Kd.R (Kd.int .i64) 3 w23 w.heap.size (fun k_ => some k_ ≠ (.slice Ao19 t168.length co19 : Value).ownBlock ∧ some k_ ≠ (.slice Ao20 t172.length co20 : Value).ownBlock) v180 y179 from by first | exact (Kd.R_mono (Kd.R_keep (IsS91.apart (show IsS91 w _ g164 t162 t178 from by repeat (first | (with_reducible first | exact HI164.out | apply IsS91.alloc | apply IsS91.drewN | apply IsS91.drew | apply IsS91.set_1 | refine IsS91.far ?_ NB164_161.out _ | refine IsS91.far ?_ NB164_176.out _) | exact HI164.out)) (by (with_reducible repeat (first | apply Kd.R_alloc | apply Kd.R_drewN | apply Kd.R_drew)); exact (Q_HO181 h0_)) (by decide)) hk (fun _ h => h.2)) (fun _ h => h.1)) | exact Kd.R_mono (Kd.R_mono (Kd.R_keep (IsS91.apart (show IsS91 w _ g164 t162 t178 from by repeat (first | (with_reducible first | exact HI164.out | apply IsS91.alloc | apply IsS91.drewN | apply IsS91.drew | apply IsS91.set_1 | refine IsS91.far ?_ NB164_161.out _ | refine IsS91.far ?_ NB164_176.out _) | exact HI164.out)) (by (with_reducible repeat (first | apply Kd.R_alloc | apply Kd.R_drewN | apply Kd.R_drew)); exact (Q_HO181 h0_)) (by decide)) hk (fun _ h => h.2)) (fun _ h => h.1)) (fun _ h_ => by first | trivial | exact h_ | exact h_.1))
                have z_HO187 := fun (h0_ : b 6 = true) => (show Kd.R (Kd.int .i64) 3 w23 w.heap.size (fun k_ => some k_ ≠ (.slice Ao19 t168.length co19 : Value).ownBlock ∧ some k_ ≠ (.slice Ao20 t172.length co20 : Value).ownBlock) v186 y185 from by first | exact (Kd.R_mono (Kd.R_keep (IsS91.apart (show IsS91 w _ g164 t162 t178 from by repeat (first | (with_reducible first | exact HI164.out | apply IsS91.alloc | apply IsS91.drewN | apply IsS91.drew | apply IsS91.set_1 | refine IsS91.far ?_ NB164_161.out _ | refine IsS91.far ?_ NB164_176.out _) | exact HI164.out)) (by (with_reducible repeat (first | apply Kd.R_alloc | apply Kd.R_drewN | apply Kd.R_drew)); exact (Q_HO187 h0_)) (by decide)) hk (fun _ h => h.2)) (fun _ h => h.1)) | exact Kd.R_mono (Kd.R_mono (Kd.R_keep (IsS91.apart (show IsS91 w _ g164 t162 t178 from by repeat (first | (with_reducible first | exact HI164.out | apply IsS91.alloc | apply IsS91.drewN | apply IsS91.drew | apply IsS91.set_1 | refine IsS91.far ?_ NB164_161.out _ | refine IsS91.far ?_ NB164_176.out _) | exact HI164.out)) (by (with_reducible repeat (first | apply Kd.R_alloc | apply Kd.R_drewN | apply Kd.R_drew)); exact (Q_HO187 h0_)) (by decide)) hk (fun _ h => h.2)) (fun _ h => h.1)) (fun _ h_ => by first | trivial | exact h_ | exact h_.1))
                clear BK161
                clear HO170
                clear HO174
                clear BK176
                clear HB
                clear HI164
                have BK161 := n0_
                have HO170 := n1_
                have HO174 := n2_
                have BK176 := n3_
                have HB := n4_
                have HI164 := n5_
                clear n0_ n1_ n2_ n3_ n4_ n5_
                (try clear hb)
                (try clear hb2)
                (try clear hk)
                (try clear hi)
                refine hK.out _ _ ⟨v180, adz_v180, v186, adz_v186, m4_, m9_, (by rw [ha.out]; exact putSel_upk 2 hb_ rfl rfl rfl), (by (with_reducible repeat (first | apply Kd.R_alloc | apply Kd.R_drewN | apply Kd.R_drew)); first | exact HO170.out | exact Kd.R_mono HO170.out (fun _ hk => hk.1)), (by (with_reducible repeat (first | apply Kd.R_alloc | apply Kd.R_drewN | apply Kd.R_drew)); first | exact HO174.out | exact Kd.R_mono HO174.out (fun _ hk => hk.1)), fun _ => (by (with_reducible repeat (first | refine blk_drewN ?_ _ | refine blk_drew ?_ | refine blk_alloc ?_ _)); exact BK161.out), (by (with_reducible repeat (first | refine blk_drewN ?_ _ | refine blk_drew ?_ | refine blk_alloc ?_ _)); exact BK176.out), fun h0_ => absurd ((up_self b 3).symm.trans h0_) (by decide), (by repeat (first | (with_reducible first | exact HB.out | apply below_alloc | apply pw_below_drewN | apply below_drew1 | refine below_set ?_ (IsS91.ge HI164.out) | refine below_set ?_ GE161.out | refine below_set ?_ GE176.out) | exact HB.out)), z_HO181, Q_HA_HO181, fun _ _ => (by repeat (first | (with_reducible first | exact HI164.out | apply IsS91.alloc | apply IsS91.drewN | apply IsS91.drew | apply IsS91.set_1 | refine IsS91.far ?_ NB164_161.out _ | refine IsS91.far ?_ NB164_176.out _) | exact HI164.out)), z_HO187, Q_HA_HO187, fun h0_ => absurd ((hoff 8 (by kernel_rfl)).symm.trans h0_) (by decide), fun h0_ => absurd ((hoff 11 (by kernel_rfl)).symm.trans h0_) (by decide), fun h0_ => absurd ((hoff 4 (by kernel_rfl)).symm.trans h0_) (by decide), fun h0_ => absurd ((hoff 9 (by kernel_rfl)).symm.trans h0_) (by decide)⟩
              refine steps_cons ?_ ?_
              · rintro b a w' ⟨v180, adz_v180, v186, adz_v186, m4_, m9_, ha, Q_HO170, Q_HO174, Q_BK161, Q_BK176, Q_HI164, Q_HB, Q_HO181, Q_HA_HO181, Q_HI164_e3, Q_HO187, Q_HA_HO187, Q_HI164_e8, Q_BK161_e11, Q_X4_, Q_X9_⟩ hb_ hon hoff
                refine ⟨_, rfl, fun K hK => ?_⟩
                have e15 : a.tmps[15]? = some (v180) := by rw [ha]; exact putSel_on (e := (1, 15, v180)) 1 rfl rfl (hon 1 (by kernel_rfl)) rfl
                have e17 : a.tmps[17]? = some (.int .i64 t182) := by rw [ha]; exact putSel_on (e := (3, 17, .int .i64 t182)) 2 rfl rfl (hon 3 (by kernel_rfl)) rfl
                replace ha := Aside0.mk ha
                have HO170 := Aside0.mk Q_HO170
                have HO174 := Aside0.mk Q_HO174
                have BK176 := Aside0.mk Q_BK176
                have HB := Aside0.mk Q_HB
                have HO181 := Aside0.mk (Q_HO181 (hon 1 (by kernel_rfl)))
                have HA_HO181 := Aside0.mk (Q_HA_HO181 (hon 1 (by kernel_rfl)))
                obtain ⟨c_, hv_⟩ := HA_HO181.out
                rw [hv_] at e15
                refine value_ (w1 := w') (v := .pointer (some (adz_v180.add (t182).toNat))) (by rfl) rfl ?_ ?_
                · go_simp
                  (try simp only [i64_w])
                  try rfl
                refine hK.out _ _ ⟨v180, adz_v180, v186, adz_v186, (.pointer (some (adz_v180.add (t182).toNat))), m9_, (by rw [ha.out]; exact putSel_upk 3 hb_ rfl rfl rfl), Q_HO170, Q_HO174, Q_BK161, Q_BK176, fun h0_ => absurd ((hon 3 (by kernel_rfl)).symm.trans h0_) (by decide), Q_HB, Q_HO181, Q_HA_HO181, Q_HI164_e3, Q_HO187, Q_HA_HO187, Q_HI164_e8, Q_BK161_e11, fun _ => rfl, Q_X9_⟩
              refine steps_cons ?_ ?_
              · rintro b a w' ⟨v180, adz_v180, v186, adz_v186, m4_, m9_, ha, Q_HO170, Q_HO174, Q_BK161, Q_BK176, Q_HI164, Q_HB, Q_HO181, Q_HA_HO181, Q_HI164_e3, Q_HO187, Q_HA_HO187, Q_HI164_e8, Q_BK161_e11, Q_X4_, Q_X9_⟩ hb_ hon hoff
                refine ⟨_, rfl, fun K hK => ?_⟩
                have e18 : a.tmps[18]? = some (m4_) := by rw [ha]; exact putSel_on (e := (4, 18, m4_)) 3 rfl rfl (hon 4 (by kernel_rfl)) rfl
                rw [Q_X4_ (hon 4 (by kernel_rfl))] at e18
                replace ha := Aside0.mk ha
                have HO170 := Aside0.mk Q_HO170
                have HO174 := Aside0.mk Q_HO174
                have BK176 := Aside0.mk Q_BK176
                have HB := Aside0.mk Q_HB
                have HO181 := Aside0.mk (Q_HO181 (hon 1 (by kernel_rfl)))
                have HA_HO181 := Aside0.mk (Q_HA_HO181 (hon 1 (by kernel_rfl)))
                obtain ⟨c_, hv_⟩ := HA_HO181.out
                have hF_ := HO181.out
                rw [hv_] at hF_
                obtain ⟨ad_, ea_, hx_⟩ := Kd.at_int (Kd.R_reads' hF_).2.2 t182 (of_eq_true pi184) (of_eq_true qi184)
                cases ea_
                refine value_ (w1 := w') (v := .int .i64 (rd y179 t182)) (by rfl) rfl ?_ ?_
                · go_simp
                  (try simp only [i64_w])
                  try rfl
                refine hK.out _ _ ⟨v180, adz_v180, v186, adz_v186, m4_, m9_, (by rw [ha.out]; exact putSel_upk 4 hb_ rfl rfl rfl), Q_HO170, Q_HO174, Q_BK161, Q_BK176, fun h0_ => absurd ((hon 3 (by kernel_rfl)).symm.trans h0_) (by decide), Q_HB, Q_HO181, Q_HA_HO181, Q_HI164_e3, Q_HO187, Q_HA_HO187, Q_HI164_e8, Q_BK161_e11, Q_X4_, Q_X9_⟩
              refine steps_cons ?_ ?_
              · rintro b a w' ⟨v180, adz_v180, v186, adz_v186, m4_, m9_, ha, Q_HO170, Q_HO174, Q_BK161, Q_BK176, Q_HI164, Q_HB, Q_HO181, Q_HA_HO181, Q_HI164_e3, Q_HO187, Q_HA_HO187, Q_HI164_e8, Q_BK161_e11, Q_X4_, Q_X9_⟩ hb_ hon hoff
                refine ⟨_, rfl, fun K hK => ?_⟩
                replace ha := Aside0.mk ha
                have HO170 := Aside0.mk Q_HO170
                have HO174 := Aside0.mk Q_HO174
                have BK176 := Aside0.mk Q_BK176
                have HB := Aside0.mk Q_HB
                refine Kd.R_lit_step (Kd.int .i64) _ 3 ?hg (N := 20) ?hd (xs := ([(-1), 99999, 100000] : List Int)) (inner := [.int .i64 (-1), .int .i64 99999, .int .i64 100000]) (ok := fun _ => True) (okp := fun _ => True) ?hr ?hp (fun _ hk => hk) trivial (Below.refl _ _) (Nat.le_refl _) (by simp) ?_; (case hd => rfl); (case hg => rfl); (case hr => first | (go_simp; done) | (go_simp; rfl)); (case hp => exact (Reps.one (show Kd.M (Kd.int .i64) _ _ _ (-1) [.int .i64 (-1)] from rfl) (Reps.one (show Kd.M (Kd.int .i64) _ _ _ 99999 [.int .i64 99999] from rfl) (Reps.one (show Kd.M (Kd.int .i64) _ _ _ 100000 [.int .i64 100000] from rfl) (Reps.none _ _)))))
                intro v186 w23 ho24 hb hg_ hnew_
                clear hg_ hnew_
                (first | rw [← Ny185.out] at ho24 | (simp only [Int.reduceToNat] at ho24; rw [← Ny185.out] at ho24))
                have n0_ := Aside0.mk (Kd.R_elder' (by (with_reducible repeat (first | apply Kd.R_alloc | apply Kd.R_drewN | apply Kd.R_drew)); exact HO170.out) (Kd.R_base ho24) hb)
                have n1_ := Aside0.mk (Kd.R_elder' (by (with_reducible repeat (first | apply Kd.R_alloc | apply Kd.R_drewN | apply Kd.R_drew)); exact HO174.out) (Kd.R_base ho24) hb)
                have n2_ := Aside0.mk (Kd.R_lower (Kd.R_new' (Kd.R_new' ho24 (Kd.R_lt (by (with_reducible repeat (first | apply Kd.R_alloc | apply Kd.R_drewN | apply Kd.R_drew)); exact HO170.out))) (Kd.R_lt (by (with_reducible repeat (first | apply Kd.R_alloc | apply Kd.R_drewN | apply Kd.R_drew)); exact HO174.out))) (below_size (by repeat (first | (with_reducible first | exact HB.out | apply below_alloc | apply pw_below_drewN | apply below_drew1 | refine below_set ?_ GE161.out | refine below_set ?_ GE176.out) | exact HB.out))))
                have n5_ := Aside0.mk (blk_below (g := gb176) (o := .cells #[.int .i64 t165, .int .i64 t166, .bool t167, .slice Ao19 t168.length co19, .bool t171, .slice Ao20 t172.length co20] 27 (0, 0)) (by (with_reducible repeat (first | refine blk_drewN ?_ _ | refine blk_drew ?_ | refine blk_alloc ?_ _)); exact BK176.out) hb)
                have n6_ := Aside0.mk (below_step (by repeat (first | (with_reducible first | exact HB.out | apply below_alloc | apply pw_below_drewN | apply below_drew1 | refine below_set ?_ GE161.out | refine below_set ?_ GE176.out) | exact HB.out)) hb)
                have z_BK161 := fun (h0_ : b 11 = false) => (show w23.heap[gb161]? = some (.cells #[.int .i64 0, .int .i64 0, .bool false, .slice none 0 0, .bool false, .slice none 0 0] 27 (0, 0)) from by first | exact (blk_below (g := gb161) (o := .cells #[.int .i64 0, .int .i64 0, .bool false, .slice none 0 0, .bool false, .slice none 0 0] 27 (0, 0)) (by (with_reducible repeat (first | refine blk_drewN ?_ _ | refine blk_drew ?_ | refine blk_alloc ?_ _)); exact (Q_BK161 h0_)) hb))
                have z_HI164 := fun (h0_ : b 3 = false) => (show IsS91 w w23 g164 t162 t178 from by first | exact (IsS91.below (by repeat (first | (with_reducible first | exact (Q_HI164 h0_) | apply IsS91.alloc | apply IsS91.drewN | apply IsS91.drew | apply IsS91.set_1 | refine IsS91.far ?_ NB164_161.out _ | refine IsS91.far ?_ NB164_176.out _) | exact (Q_HI164 h0_))) hb))
                have z_HO181 := fun (h0_ : b 1 = true) => (show Kd.R (Kd.int .i64) 3 w23 w.heap.size (fun k_ => some k_ ≠ (.slice Ao19 t168.length co19 : Value).ownBlock ∧ some k_ ≠ (.slice Ao20 t172.length co20 : Value).ownBlock) v180 y179 from by first | exact (Kd.R_elder' (by (with_reducible repeat (first | apply Kd.R_alloc | apply Kd.R_drewN | apply Kd.R_drew)); exact (Q_HO181 h0_)) (Kd.R_base ho24) hb) | exact Kd.R_mono (Kd.R_elder' (by (with_reducible repeat (first | apply Kd.R_alloc | apply Kd.R_drewN | apply Kd.R_drew)); exact (Q_HO181 h0_)) (Kd.R_base ho24) hb) (fun _ h_ => by first | trivial | exact h_ | exact h_.1))
                have z_HI164_e3 := fun (h0_ : b 3 = true) (h1_ : b 8 = false) => (show IsS91 w w23 g164 t162 t183 from by first | exact (IsS91.below (by repeat (first | (with_reducible first | exact (Q_HI164_e3 h0_ h1_) | apply IsS91.alloc | apply IsS91.drewN | apply IsS91.drew | apply IsS91.set_1 | refine IsS91.far ?_ NB164_161.out _ | refine IsS91.far ?_ NB164_176.out _) | exact (Q_HI164_e3 h0_ h1_))) hb))
                have z_HI164_e8 := fun (h0_ : b 8 = true) => (show IsS91 w w23 g164 t162 t189 from by first | exact (IsS91.below (by repeat (first | (with_reducible first | exact (Q_HI164_e8 h0_) | apply IsS91.alloc | apply IsS91.drewN | apply IsS91.drew | apply IsS91.set_1 | refine IsS91.far ?_ NB164_161.out _ | refine IsS91.far ?_ NB164_176.out _) | exact (Q_HI164_e8 h0_))) hb))
                have z_BK161_e11 := fun (h0_ : b 11 = true) => (show w23.heap[gb161]? = some (.cells #[.int .i64 t165, .int .i64 t166, .bool t167, .slice Ao19 t168.length co19, .bool t171, .slice Ao20 t172.length co20] 27 (0, 0)) from by first | exact (blk_below (g := gb161) (o := .cells #[.int .i64 t165, .int .i64 t166, .bool t167, .slice Ao19 t168.length co19, .bool t171, .slice Ao20 t172.length co20] 27 (0, 0)) (by (with_reducible repeat (first | refine blk_drewN ?_ _ | refine blk_drew ?_ | refine blk_alloc ?_ _)); exact (Q_BK161_e11 h0_)) hb))
                clear HO170
                clear HO174
                clear BK176
                clear HB
                have HO170 := n0_
                have HO174 := n1_
                have HO187 := n2_
                have BK176 := n5_
                have HB := n6_
                clear n0_ n1_ n2_ n5_ n6_
                clear hb ho24
                obtain ⟨Ao25, co25, eo25⟩ := Kd.R_slice HO187.out
                subst eo25
                obtain ⟨ado25, fo25, _⟩ := Kd.at_int (Kd.R_reads' HO187.out).2.2 0 (by decide) (by rw [Ny185.out]; simp)
                cases fo25
                refine hK.out _ _ ⟨v180, adz_v180, .slice (some ado25) y185.length co25, ado25, m4_, m9_, (by rw [ha.out]; exact putSel_upk 5 hb_ rfl rfl rfl), (by (with_reducible repeat (first | apply Kd.R_alloc | apply Kd.R_drewN | apply Kd.R_drew)); first | exact HO170.out | exact Kd.R_mono HO170.out (fun _ hk => hk.1)), (by (with_reducible repeat (first | apply Kd.R_alloc | apply Kd.R_drewN | apply Kd.R_drew)); first | exact HO174.out | exact Kd.R_mono HO174.out (fun _ hk => hk.1)), z_BK161, (by (with_reducible repeat (first | refine blk_drewN ?_ _ | refine blk_drew ?_ | refine blk_alloc ?_ _)); exact BK176.out), z_HI164, (by repeat (first | (with_reducible first | exact HB.out | apply below_alloc | apply pw_below_drewN | apply below_drew1 | refine below_set ?_ GE161.out | refine below_set ?_ GE176.out) | exact HB.out)), z_HO181, Q_HA_HO181, z_HI164_e3, fun _ => (by (with_reducible repeat (first | apply Kd.R_alloc | apply Kd.R_drewN | apply Kd.R_drew)); exact Kd.R_mono HO187.out (fun _ hk => ⟨hk.1.2, hk.2⟩)), fun _ => ⟨_, rfl⟩, z_HI164_e8, z_BK161_e11, Q_X4_, fun h0_ => absurd ((hoff 9 (by kernel_rfl)).symm.trans h0_) (by decide)⟩
              refine steps_cons ?_ ?_
              · rintro b a w' ⟨v180, adz_v180, v186, adz_v186, m4_, m9_, ha, Q_HO170, Q_HO174, Q_BK161, Q_BK176, Q_HI164, Q_HB, Q_HO181, Q_HA_HO181, Q_HI164_e3, Q_HO187, Q_HA_HO187, Q_HI164_e8, Q_BK161_e11, Q_X4_, Q_X9_⟩ hb_ hon hoff
                refine ⟨_, rfl, fun K hK => ?_⟩
                have e21 : a.tmps[21]? = some (.pointer (some ⟨g164, 0, none⟩)) := by rw [ha]; exact (putSel_off rfl).trans rfl
                replace ha := Aside0.mk ha
                have HO170 := Aside0.mk Q_HO170
                have HO174 := Aside0.mk Q_HO174
                have BK161 := Aside0.mk (Q_BK161 (hoff 11 (by kernel_rfl)))
                have BK176 := Aside0.mk Q_BK176
                have HB := Aside0.mk Q_HB
                have HI164 := Aside0.mk (Q_HI164_e3 (hon 3 (by kernel_rfl)) hb_)
                refine goes_ Try.func65 (by kernel_rfl) rfl #[.pointer (some ⟨g164, 0, none⟩), .int .i64 3] (by rfl) rfl rfl (by first | (simp only [List.map_toArray, List.map_cons, List.map_nil, Act.eval, Array.getD_eq_getD_getElem?, Option.getD_some, e21]; done) | (simp only [List.map_toArray, List.map_cons, List.map_nil, Act.eval, Array.getD_eq_getD_getElem?, Option.getD_some, e21]; rfl)) ?_
                with_reducible refine (spec_l6Rd_pick.calls k g164 t162 t183 3 t188 t189 w _ ?side1 ?side2 A9.out).mono ?_
                (case side1 => repeat (first | (with_reducible first | exact HI164.out | apply IsS91.alloc | apply IsS91.drewN | apply IsS91.drew | apply IsS91.set_1 | refine IsS91.far ?_ NB164_161.out _ | refine IsS91.far ?_ NB164_176.out _) | exact HI164.out))
                (case side2 => repeat (first | (with_reducible first | exact HB.out | apply below_alloc | apply pw_below_drewN | apply below_drew1 | refine below_set ?_ (IsS91.ge HI164.out) | refine below_set ?_ GE161.out | refine below_set ?_ GE176.out) | exact HB.out))
                rintro e w25 ⟨rfl, hi, hb, hk⟩
                refine ⟨_, rfl, ?_⟩
                have n0_ := Aside0.mk (KeepBut.blk hk (g' := gb161) (o := .cells #[.int .i64 0, .int .i64 0, .bool false, .slice none 0 0, .bool false, .slice none 0 0] 27 (0, 0)) (by (with_reducible repeat (first | refine blk_drewN ?_ _ | refine blk_drew ?_ | refine blk_alloc ?_ _)); exact BK161.out) NB161_164.out (by simp))
                have n1_ := Aside0.mk (Kd.R_mono (Kd.R_keep (IsS91.apart (show IsS91 w _ g164 t162 t183 from by repeat (first | (with_reducible first | exact HI164.out | apply IsS91.alloc | apply IsS91.drewN | apply IsS91.drew | apply IsS91.set_1 | refine IsS91.far ?_ NB164_161.out _ | refine IsS91.far ?_ NB164_176.out _) | exact HI164.out)) (by (with_reducible repeat (first | apply Kd.R_alloc | apply Kd.R_drewN | apply Kd.R_drew)); exact HO170.out) (by decide)) hk (fun _ h => h.2)) (fun _ h => h.1))
                have n2_ := Aside0.mk (Kd.R_mono (Kd.R_keep (IsS91.apart (show IsS91 w _ g164 t162 t183 from by repeat (first | (with_reducible first | exact HI164.out | apply IsS91.alloc | apply IsS91.drewN | apply IsS91.drew | apply IsS91.set_1 | refine IsS91.far ?_ NB164_161.out _ | refine IsS91.far ?_ NB164_176.out _) | exact HI164.out)) (by (with_reducible repeat (first | apply Kd.R_alloc | apply Kd.R_drewN | apply Kd.R_drew)); exact HO174.out) (by decide)) hk (fun _ h => h.2)) (fun _ h => h.1))
                have n3_ := Aside0.mk (KeepBut.blk hk (g' := gb176) (o := .cells #[.int .i64 t165, .int .i64 t166, .bool t167, .slice Ao19 t168.length co19, .bool t171, .slice Ao20 t172.length co20] 27 (0, 0)) (by (with_reducible repeat (first | refine blk_drewN ?_ _ | refine blk_drew ?_ | refine blk_alloc ?_ _)); exact BK176.out) NB176_164.out (by simp))
                have n4_ := Aside0.mk (hb)
                have n5_ := Aside0.mk (hi)
                have z_HO181 := fun (h0_ : b 1 = true) => (show Kd.R (Kd.int .i64) 3 w25 w.heap.size (fun k_ => some k_ ≠ (.slice Ao19 t168.length co19 : Value).ownBlock ∧ some k_ ≠ (.slice Ao20 t172.length co20 : Value).ownBlock) v180 y179 from by first | exact (Kd.R_mono (Kd.R_keep (IsS91.apart (show IsS91 w _ g164 t162 t183 from by repeat (first | (with_reducible first | exact HI164.out | apply IsS91.alloc | apply IsS91.drewN | apply IsS91.drew | apply IsS91.set_1 | refine IsS91.far ?_ NB164_161.out _ | refine IsS91.far ?_ NB164_176.out _) | exact HI164.out)) (by (with_reducible repeat (first | apply Kd.R_alloc | apply Kd.R_drewN | apply Kd.R_drew)); exact (Q_HO181 h0_)) (by decide)) hk (fun _ h => h.2)) (fun _ h => h.1)) | exact Kd.R_mono (Kd.R_mono (Kd.R_keep (IsS91.apart (show IsS91 w _ g164 t162 t183 from by repeat (first | (with_reducible first | exact HI164.out | apply IsS91.alloc | apply IsS91.drewN | apply IsS91.drew | apply IsS91.set_1 | refine IsS91.far ?_ NB164_161.out _ | refine IsS91.far ?_ NB164_176.out _) | exact HI164.out)) (by (with_reducible repeat (first | apply Kd.R_alloc | apply Kd.R_drewN | apply Kd.R_drew)); exact (Q_HO181 h0_)) (by decide)) hk (fun _ h => h.2)) (fun _ h => h.1)) (fun _ h_ => by first | trivial | exact h_ | exact h_.1))
                have z_HO187 := fun (h0_ : b 6 = true) => (show Kd.R (Kd.int .i64) 3 w25 w.heap.size (fun k_ => some k_ ≠ (.slice Ao19 t168.length co19 : Value).ownBlock ∧ some k_ ≠ (.slice Ao20 t172.length co20 : Value).ownBlock) v186 y185 from by first | exact (Kd.R_mono (Kd.R_keep (IsS91.apart (show IsS91 w _ g164 t162 t183 from by repeat (first | (with_reducible first | exact HI164.out | apply IsS91.alloc | apply IsS91.drewN | apply IsS91.drew | apply IsS91.set_1 | refine IsS91.far ?_ NB164_161.out _ | refine IsS91.far ?_ NB164_176.out _) | exact HI164.out)) (by (with_reducible repeat (first | apply Kd.R_alloc | apply Kd.R_drewN | apply Kd.R_drew)); exact (Q_HO187 h0_)) (by decide)) hk (fun _ h => h.2)) (fun _ h => h.1)) | exact Kd.R_mono (Kd.R_mono (Kd.R_keep (IsS91.apart (show IsS91 w _ g164 t162 t183 from by repeat (first | (with_reducible first | exact HI164.out | apply IsS91.alloc | apply IsS91.drewN | apply IsS91.drew | apply IsS91.set_1 | refine IsS91.far ?_ NB164_161.out _ | refine IsS91.far ?_ NB164_176.out _) | exact HI164.out)) (by (with_reducible repeat (first | apply Kd.R_alloc | apply Kd.R_drewN | apply Kd.R_drew)); exact (Q_HO187 h0_)) (by decide)) hk (fun _ h => h.2)) (fun _ h => h.1)) (fun _ h_ => by first | trivial | exact h_ | exact h_.1))
                clear BK161
                clear HO170
                clear HO174
                clear BK176
                clear HB
                clear HI164
                have BK161 := n0_
                have HO170 := n1_
                have HO174 := n2_
                have BK176 := n3_
                have HB := n4_
                have HI164 := n5_
                clear n0_ n1_ n2_ n3_ n4_ n5_
                (try clear hb)
                (try clear hb2)
                (try clear hk)
                (try clear hi)
                refine hK.out _ _ ⟨v180, adz_v180, v186, adz_v186, m4_, m9_, (by rw [ha.out]; exact putSel_upk 6 hb_ rfl rfl rfl), (by (with_reducible repeat (first | apply Kd.R_alloc | apply Kd.R_drewN | apply Kd.R_drew)); first | exact HO170.out | exact Kd.R_mono HO170.out (fun _ hk => hk.1)), (by (with_reducible repeat (first | apply Kd.R_alloc | apply Kd.R_drewN | apply Kd.R_drew)); first | exact HO174.out | exact Kd.R_mono HO174.out (fun _ hk => hk.1)), fun _ => (by (with_reducible repeat (first | refine blk_drewN ?_ _ | refine blk_drew ?_ | refine blk_alloc ?_ _)); exact BK161.out), (by (with_reducible repeat (first | refine blk_drewN ?_ _ | refine blk_drew ?_ | refine blk_alloc ?_ _)); exact BK176.out), fun h0_ => absurd ((hon 3 (by kernel_rfl)).symm.trans h0_) (by decide), (by repeat (first | (with_reducible first | exact HB.out | apply below_alloc | apply pw_below_drewN | apply below_drew1 | refine below_set ?_ (IsS91.ge HI164.out) | refine below_set ?_ GE161.out | refine below_set ?_ GE176.out) | exact HB.out)), z_HO181, Q_HA_HO181, fun _ h1_ => absurd ((up_self b 8).symm.trans h1_) (by decide), z_HO187, Q_HA_HO187, fun _ => (by repeat (first | (with_reducible first | exact HI164.out | apply IsS91.alloc | apply IsS91.drewN | apply IsS91.drew | apply IsS91.set_1 | refine IsS91.far ?_ NB164_161.out _ | refine IsS91.far ?_ NB164_176.out _) | exact HI164.out)), fun h0_ => absurd ((hoff 11 (by kernel_rfl)).symm.trans h0_) (by decide), Q_X4_, fun h0_ => absurd ((hoff 9 (by kernel_rfl)).symm.trans h0_) (by decide)⟩
              refine steps_cons ?_ ?_
              · rintro b a w' ⟨v180, adz_v180, v186, adz_v186, m4_, m9_, ha, Q_HO170, Q_HO174, Q_BK161, Q_BK176, Q_HI164, Q_HB, Q_HO181, Q_HA_HO181, Q_HI164_e3, Q_HO187, Q_HA_HO187, Q_HI164_e8, Q_BK161_e11, Q_X4_, Q_X9_⟩ hb_ hon hoff
                refine ⟨_, rfl, fun K hK => ?_⟩
                have e20 : a.tmps[20]? = some (v186) := by rw [ha]; exact putSel_on (e := (6, 20, v186)) 5 rfl rfl (hon 6 (by kernel_rfl)) rfl
                have e22 : a.tmps[22]? = some (.int .i64 t188) := by rw [ha]; exact putSel_on (e := (8, 22, .int .i64 t188)) 6 rfl rfl (hon 8 (by kernel_rfl)) rfl
                replace ha := Aside0.mk ha
                have HO170 := Aside0.mk Q_HO170
                have HO174 := Aside0.mk Q_HO174
                have BK176 := Aside0.mk Q_BK176
                have HB := Aside0.mk Q_HB
                have HO187 := Aside0.mk (Q_HO187 (hon 6 (by kernel_rfl)))
                have HA_HO187 := Aside0.mk (Q_HA_HO187 (hon 6 (by kernel_rfl)))
                have HI164 := Aside0.mk (Q_HI164_e8 (hon 8 (by kernel_rfl)))
                obtain ⟨c_, hv_⟩ := HA_HO187.out
                rw [hv_] at e20
                refine value_ (w1 := w') (v := .pointer (some (adz_v186.add (t188).toNat))) (by rfl) rfl ?_ ?_
                · go_simp
                  (try simp only [i64_w])
                  try rfl
                refine hK.out _ _ ⟨v180, adz_v180, v186, adz_v186, m4_, (.pointer (some (adz_v186.add (t188).toNat))), (by rw [ha.out]; exact putSel_upk 7 hb_ rfl rfl rfl), Q_HO170, Q_HO174, Q_BK161, Q_BK176, fun h0_ => absurd ((hon 3 (by kernel_rfl)).symm.trans h0_) (by decide), Q_HB, Q_HO181, Q_HA_HO181, fun _ h1_ => absurd ((hon 8 (by kernel_rfl)).symm.trans h1_) (by decide), Q_HO187, Q_HA_HO187, Q_HI164_e8, Q_BK161_e11, Q_X4_, fun _ => rfl⟩
              refine steps_cons ?_ ?_
              · rintro b a w' ⟨v180, adz_v180, v186, adz_v186, m4_, m9_, ha, Q_HO170, Q_HO174, Q_BK161, Q_BK176, Q_HI164, Q_HB, Q_HO181, Q_HA_HO181, Q_HI164_e3, Q_HO187, Q_HA_HO187, Q_HI164_e8, Q_BK161_e11, Q_X4_, Q_X9_⟩ hb_ hon hoff
                refine ⟨_, rfl, fun K hK => ?_⟩
                have e23 : a.tmps[23]? = some (m9_) := by rw [ha]; exact putSel_on (e := (9, 23, m9_)) 7 rfl rfl (hon 9 (by kernel_rfl)) rfl
                rw [Q_X9_ (hon 9 (by kernel_rfl))] at e23
                replace ha := Aside0.mk ha
                have HO170 := Aside0.mk Q_HO170
                have HO174 := Aside0.mk Q_HO174
                have BK176 := Aside0.mk Q_BK176
                have HB := Aside0.mk Q_HB
                have HO187 := Aside0.mk (Q_HO187 (hon 6 (by kernel_rfl)))
                have HA_HO187 := Aside0.mk (Q_HA_HO187 (hon 6 (by kernel_rfl)))
                have HI164 := Aside0.mk (Q_HI164_e8 (hon 8 (by kernel_rfl)))
                obtain ⟨c_, hv_⟩ := HA_HO187.out
                have hF_ := HO187.out
                rw [hv_] at hF_
                obtain ⟨ad_, ea_, hx_⟩ := Kd.at_int (Kd.R_reads' hF_).2.2 t188 (of_eq_true pi190) (of_eq_true qi190)
                cases ea_
                refine value_ (w1 := w') (v := .int .i64 (rd y185 t188)) (by rfl) rfl ?_ ?_
                · go_simp
                  (try simp only [i64_w])
                  try rfl
                refine hK.out _ _ ⟨v180, adz_v180, v186, adz_v186, m4_, m9_, (by rw [ha.out]; exact putSel_upk 8 hb_ rfl rfl rfl), Q_HO170, Q_HO174, Q_BK161, Q_BK176, fun h0_ => absurd ((hon 3 (by kernel_rfl)).symm.trans h0_) (by decide), Q_HB, Q_HO181, Q_HA_HO181, fun _ h1_ => absurd ((hon 8 (by kernel_rfl)).symm.trans h1_) (by decide), Q_HO187, Q_HA_HO187, Q_HI164_e8, Q_BK161_e11, Q_X4_, Q_X9_⟩
              refine steps_cons ?_ ?_
              · rintro b a w' ⟨v180, adz_v180, v186, adz_v186, m4_, m9_, ha, Q_HO170, Q_HO174, Q_BK161, Q_BK176, Q_HI164, Q_HB, Q_HO181, Q_HA_HO181, Q_HI164_e3, Q_HO187, Q_HA_HO187, Q_HI164_e8, Q_BK161_e11, Q_X4_, Q_X9_⟩ hb_ hon hoff
                refine ⟨_, rfl, fun K hK => ?_⟩
                have e2 : a.tmps[2]? = some (.pointer (some ⟨gb161, 0, none⟩)) := by rw [ha]; exact (putSel_off rfl).trans rfl
                have e14 : a.tmps[14]? = some (.agg #[.int .i64 t165, .int .i64 t166, .bool t167, .slice Ao19 t168.length co19, .bool t171, .slice Ao20 t172.length co20]) := by rw [ha]; exact putSel_on (e := (0, 14, .agg #[.int .i64 t165, .int .i64 t166, .bool t167, .slice Ao19 t168.length co19, .bool t171, .slice Ao20 t172.length co20])) 0 rfl rfl (hon 0 (by kernel_rfl)) rfl
                replace ha := Aside0.mk ha
                have HO170 := Aside0.mk Q_HO170
                have HO174 := Aside0.mk Q_HO174
                have BK161 := Aside0.mk (Q_BK161 hb_)
                have BK176 := Aside0.mk Q_BK176
                have HB := Aside0.mk Q_HB
                have HI164 := Aside0.mk (Q_HI164_e8 (hon 8 (by kernel_rfl)))
                have hs26 : w'.cell? ⟨gb161, 0, none⟩ = some (.int .i64 0) := (blk_cell BK161.out 0).trans rfl
                have hfs26 := blk_frozen BK161.out 0
                have hns26_1 := NB176_161.out
                have hms26_1 := NB161_176.out
                have hs27 : w'.cell? ⟨gb161, 1, none⟩ = some (.int .i64 0) := (blk_cell BK161.out 1).trans rfl
                have hfs27 := blk_frozen BK161.out 1
                have hns27_1 := NB176_161.out
                have hms27_1 := NB161_176.out
                have hs28 : w'.cell? ⟨gb161, 2, none⟩ = some (.bool false) := (blk_cell BK161.out 2).trans rfl
                have hfs28 := blk_frozen BK161.out 2
                have hns28_1 := NB176_161.out
                have hms28_1 := NB161_176.out
                have hs29 : w'.cell? ⟨gb161, 3, none⟩ = some (.slice none 0 0) := (blk_cell BK161.out 3).trans rfl
                have hfs29 := blk_frozen BK161.out 3
                have hns29_1 := NB176_161.out
                have hms29_1 := NB161_176.out
                have hs30 : w'.cell? ⟨gb161, 4, none⟩ = some (.bool false) := (blk_cell BK161.out 4).trans rfl
                have hfs30 := blk_frozen BK161.out 4
                have hns30_1 := NB176_161.out
                have hms30_1 := NB161_176.out
                have hs31 : w'.cell? ⟨gb161, 5, none⟩ = some (.slice none 0 0) := (blk_cell BK161.out 5).trans rfl
                have hfs31 := blk_frozen BK161.out 5
                have hns31_1 := NB176_161.out
                have hms31_1 := NB161_176.out
                refine skip_ (w1 := ?_) (by rfl) rfl ?_ ?_
                rotate_left
                · go_simp
                  rfl
                refine hK.out _ _ ⟨v180, adz_v180, v186, adz_v186, m4_, m9_, (by rw [ha.out]; exact putSel_none (v := undef) rfl), (by (with_reducible repeat (first | apply Kd.R_alloc | apply Kd.R_drewN | apply Kd.R_drew)); exact Kd.R_mono (Kd.R_far (p := ⟨gb161, 5, none⟩) (Kd.R_far (p := ⟨gb161, 4, none⟩) (Kd.R_far (p := ⟨gb161, 3, none⟩) (Kd.R_far (p := ⟨gb161, 2, none⟩) (Kd.R_far (p := ⟨gb161, 1, none⟩) (Kd.R_far (p := ⟨gb161, 0, none⟩) (Kd.R_types HO170.out BK161.out (by decide)) (fun _ hk => hk.2) (.int .i64 t165)) (fun _ hk => hk.2) (.int .i64 t166)) (fun _ hk => hk.2) (.bool t167)) (fun _ hk => hk.2) (.slice Ao19 t168.length co19)) (fun _ hk => hk.2) (.bool t171)) (fun _ hk => hk.2) (.slice Ao20 t172.length co20)) (fun _ hk => hk.1)), (by (with_reducible repeat (first | apply Kd.R_alloc | apply Kd.R_drewN | apply Kd.R_drew)); exact Kd.R_mono (Kd.R_far (p := ⟨gb161, 5, none⟩) (Kd.R_far (p := ⟨gb161, 4, none⟩) (Kd.R_far (p := ⟨gb161, 3, none⟩) (Kd.R_far (p := ⟨gb161, 2, none⟩) (Kd.R_far (p := ⟨gb161, 1, none⟩) (Kd.R_far (p := ⟨gb161, 0, none⟩) (Kd.R_types HO174.out BK161.out (by decide)) (fun _ hk => hk.2) (.int .i64 t165)) (fun _ hk => hk.2) (.int .i64 t166)) (fun _ hk => hk.2) (.bool t167)) (fun _ hk => hk.2) (.slice Ao19 t168.length co19)) (fun _ hk => hk.2) (.bool t171)) (fun _ hk => hk.2) (.slice Ao20 t172.length co20)) (fun _ hk => hk.1)), fun h0_ => absurd ((up_self b 11).symm.trans h0_) (by decide), (by (with_reducible repeat (first | refine blk_drewN ?_ _ | refine blk_drew ?_ | refine blk_alloc ?_ _)); refine blk_far ?_ NB176_161.out _; (with_reducible repeat (first | refine blk_drewN ?_ _ | refine blk_drew ?_ | refine blk_alloc ?_ _)); refine blk_far ?_ NB176_161.out _; (with_reducible repeat (first | refine blk_drewN ?_ _ | refine blk_drew ?_ | refine blk_alloc ?_ _)); refine blk_far ?_ NB176_161.out _; (with_reducible repeat (first | refine blk_drewN ?_ _ | refine blk_drew ?_ | refine blk_alloc ?_ _)); refine blk_far ?_ NB176_161.out _; (with_reducible repeat (first | refine blk_drewN ?_ _ | refine blk_drew ?_ | refine blk_alloc ?_ _)); refine blk_far ?_ NB176_161.out _; (with_reducible repeat (first | refine blk_drewN ?_ _ | refine blk_drew ?_ | refine blk_alloc ?_ _)); refine blk_far ?_ NB176_161.out _; (with_reducible repeat (first | refine blk_drewN ?_ _ | refine blk_drew ?_ | refine blk_alloc ?_ _)); exact BK176.out), fun h0_ => absurd ((hon 3 (by kernel_rfl)).symm.trans h0_) (by decide), (by repeat (first | (with_reducible first | exact HB.out | apply below_alloc | apply pw_below_drewN | apply below_drew1 | refine below_set ?_ (IsS91.ge HI164.out) | refine below_set ?_ GE161.out | refine below_set ?_ GE176.out) | exact HB.out)), fun h0_ => (by (with_reducible repeat (first | apply Kd.R_alloc | apply Kd.R_drewN | apply Kd.R_drew)); exact Kd.R_mono (Kd.R_far (p := ⟨gb161, 5, none⟩) (Kd.R_far (p := ⟨gb161, 4, none⟩) (Kd.R_far (p := ⟨gb161, 3, none⟩) (Kd.R_far (p := ⟨gb161, 2, none⟩) (Kd.R_far (p := ⟨gb161, 1, none⟩) (Kd.R_far (p := ⟨gb161, 0, none⟩) (Kd.R_types (Q_HO181 h0_) BK161.out (by decide)) (fun _ hk => hk.2) (.int .i64 t165)) (fun _ hk => hk.2) (.int .i64 t166)) (fun _ hk => hk.2) (.bool t167)) (fun _ hk => hk.2) (.slice Ao19 t168.length co19)) (fun _ hk => hk.2) (.bool t171)) (fun _ hk => hk.2) (.slice Ao20 t172.length co20)) (fun _ hk => ⟨hk.1.1, hk.1.2⟩)), Q_HA_HO181, fun _ h1_ => absurd ((hon 8 (by kernel_rfl)).symm.trans h1_) (by decide), fun h0_ => (by (with_reducible repeat (first | apply Kd.R_alloc | apply Kd.R_drewN | apply Kd.R_drew)); exact Kd.R_mono (Kd.R_far (p := ⟨gb161, 5, none⟩) (Kd.R_far (p := ⟨gb161, 4, none⟩) (Kd.R_far (p := ⟨gb161, 3, none⟩) (Kd.R_far (p := ⟨gb161, 2, none⟩) (Kd.R_far (p := ⟨gb161, 1, none⟩) (Kd.R_far (p := ⟨gb161, 0, none⟩) (Kd.R_types (Q_HO187 h0_) BK161.out (by decide)) (fun _ hk => hk.2) (.int .i64 t165)) (fun _ hk => hk.2) (.int .i64 t166)) (fun _ hk => hk.2) (.bool t167)) (fun _ hk => hk.2) (.slice Ao19 t168.length co19)) (fun _ hk => hk.2) (.bool t171)) (fun _ hk => hk.2) (.slice Ao20 t172.length co20)) (fun _ hk => ⟨hk.1.1, hk.1.2⟩)), Q_HA_HO187, fun _ => (by repeat (first | (with_reducible first | exact HI164.out | apply IsS91.alloc | apply IsS91.drewN | apply IsS91.drew | apply IsS91.set_1 | refine IsS91.far ?_ NB164_161.out _ | refine IsS91.far ?_ NB164_176.out _) | exact HI164.out)), fun _ => (by (with_reducible repeat (first | refine blk_drewN ?_ _ | refine blk_drew ?_ | refine blk_alloc ?_ _)); refine blk_put (cs := #[.int .i64 t165, .int .i64 t166, .bool t167, .slice Ao19 t168.length co19, .bool t171, .slice none 0 0]) ?_ 5 _ rfl; (with_reducible repeat (first | refine blk_drewN ?_ _ | refine blk_drew ?_ | refine blk_alloc ?_ _)); refine blk_put (cs := #[.int .i64 t165, .int .i64 t166, .bool t167, .slice Ao19 t168.length co19, .bool false, .slice none 0 0]) ?_ 4 _ rfl; (with_reducible repeat (first | refine blk_drewN ?_ _ | refine blk_drew ?_ | refine blk_alloc ?_ _)); refine blk_put (cs := #[.int .i64 t165, .int .i64 t166, .bool t167, .slice none 0 0, .bool false, .slice none 0 0]) ?_ 3 _ rfl; (with_reducible repeat (first | refine blk_drewN ?_ _ | refine blk_drew ?_ | refine blk_alloc ?_ _)); refine blk_put (cs := #[.int .i64 t165, .int .i64 t166, .bool false, .slice none 0 0, .bool false, .slice none 0 0]) ?_ 2 _ rfl; (with_reducible repeat (first | refine blk_drewN ?_ _ | refine blk_drew ?_ | refine blk_alloc ?_ _)); refine blk_put (cs := #[.int .i64 t165, .int .i64 0, .bool false, .slice none 0 0, .bool false, .slice none 0 0]) ?_ 1 _ rfl; (with_reducible repeat (first | refine blk_drewN ?_ _ | refine blk_drew ?_ | refine blk_alloc ?_ _)); refine blk_put (cs := #[.int .i64 0, .int .i64 0, .bool false, .slice none 0 0, .bool false, .slice none 0 0]) ?_ 0 _ rfl; (with_reducible repeat (first | refine blk_drewN ?_ _ | refine blk_drew ?_ | refine blk_alloc ?_ _)); exact BK161.out), Q_X4_, Q_X9_⟩
              refine steps_cons ?_ ?_
              · rintro b a w' ⟨v180, adz_v180, v186, adz_v186, m4_, m9_, ha, Q_HO170, Q_HO174, Q_BK161, Q_BK176, Q_HI164, Q_HB, Q_HO181, Q_HA_HO181, Q_HI164_e3, Q_HO187, Q_HA_HO187, Q_HI164_e8, Q_BK161_e11, Q_X4_, Q_X9_⟩ hb_ hon hoff
                refine ⟨_, rfl, fun K hK => ?_⟩
                have e19 : a.tmps[19]? = some (.int .i64 (rd y179 t182)) := by rw [ha]; exact putSel_on (e := (5, 19, .int .i64 (rd y179 t182))) 4 rfl rfl (hon 5 (by kernel_rfl)) rfl
                replace ha := Aside0.mk ha
                have HO170 := Aside0.mk Q_HO170
                have HO174 := Aside0.mk Q_HO174
                have BK176 := Aside0.mk Q_BK176
                have HB := Aside0.mk Q_HB
                have HO181 := Aside0.mk (Q_HO181 (hon 1 (by kernel_rfl)))
                have HA_HO181 := Aside0.mk (Q_HA_HO181 (hon 1 (by kernel_rfl)))
                have HI164 := Aside0.mk (Q_HI164_e8 (hon 8 (by kernel_rfl)))
                have BK161 := Aside0.mk (Q_BK161_e11 (hon 11 (by kernel_rfl)))
                refine value_ (w1 := w') (v := .int .i64 (rd y179 t182)) (by rfl) rfl ?_ ?_
                · go_simp
                  (try simp only [i64_w])
                  try rfl
                refine hK.out _ _ ⟨v180, adz_v180, v186, adz_v186, m4_, m9_, (by rw [ha.out]; exact putSel_upk 9 hb_ rfl rfl rfl), Q_HO170, Q_HO174, fun h0_ => absurd ((hon 11 (by kernel_rfl)).symm.trans h0_) (by decide), Q_BK176, fun h0_ => absurd ((hon 3 (by kernel_rfl)).symm.trans h0_) (by decide), Q_HB, Q_HO181, Q_HA_HO181, fun _ h1_ => absurd ((hon 8 (by kernel_rfl)).symm.trans h1_) (by decide), Q_HO187, Q_HA_HO187, Q_HI164_e8, Q_BK161_e11, Q_X4_, Q_X9_⟩
              refine steps_cons ?_ ?_
              · rintro b a w' ⟨v180, adz_v180, v186, adz_v186, m4_, m9_, ha, Q_HO170, Q_HO174, Q_BK161, Q_BK176, Q_HI164, Q_HB, Q_HO181, Q_HA_HO181, Q_HI164_e3, Q_HO187, Q_HA_HO187, Q_HI164_e8, Q_BK161_e11, Q_X4_, Q_X9_⟩ hb_ hon hoff
                refine ⟨_, rfl, fun K hK => ?_⟩
                have e24 : a.tmps[24]? = some (.int .i64 (rd y185 t188)) := by rw [ha]; exact putSel_on (e := (10, 24, .int .i64 (rd y185 t188))) 8 rfl rfl (hon 10 (by kernel_rfl)) rfl
                replace ha := Aside0.mk ha
                have HO170 := Aside0.mk Q_HO170
                have HO174 := Aside0.mk Q_HO174
                have BK176 := Aside0.mk Q_BK176
                have HB := Aside0.mk Q_HB
                have HO181 := Aside0.mk (Q_HO181 (hon 1 (by kernel_rfl)))
                have HA_HO181 := Aside0.mk (Q_HA_HO181 (hon 1 (by kernel_rfl)))
                have HO187 := Aside0.mk (Q_HO187 (hon 6 (by kernel_rfl)))
                have HA_HO187 := Aside0.mk (Q_HA_HO187 (hon 6 (by kernel_rfl)))
                have HI164 := Aside0.mk (Q_HI164_e8 (hon 8 (by kernel_rfl)))
                have BK161 := Aside0.mk (Q_BK161_e11 (hon 11 (by kernel_rfl)))
                refine value_ (w1 := w') (v := .int .i64 (rd y185 t188)) (by rfl) rfl ?_ ?_
                · go_simp
                  (try simp only [i64_w])
                  try rfl
                refine hK.out _ _ ⟨v180, adz_v180, v186, adz_v186, m4_, m9_, (by rw [ha.out]; exact putSel_upk 10 hb_ rfl rfl rfl), Q_HO170, Q_HO174, fun h0_ => absurd ((hon 11 (by kernel_rfl)).symm.trans h0_) (by decide), Q_BK176, fun h0_ => absurd ((hon 3 (by kernel_rfl)).symm.trans h0_) (by decide), Q_HB, Q_HO181, Q_HA_HO181, fun _ h1_ => absurd ((hon 8 (by kernel_rfl)).symm.trans h1_) (by decide), Q_HO187, Q_HA_HO187, Q_HI164_e8, Q_BK161_e11, Q_X4_, Q_X9_⟩
              exact steps_nil
            rintro b a w37 hall ⟨v180, adz_v180, v186, adz_v186, m4_, m9_, ha, Q_HO170, Q_HO174, Q_BK161, Q_BK176, Q_HI164, Q_HB, Q_HO181, Q_HA_HO181, Q_HI164_e3, Q_HO187, Q_HA_HO187, Q_HI164_e8, Q_BK161_e11, Q_X4_, Q_X9_⟩
            clear BK161 BK176 HB HI164 HO170 HO174
            have hb0_ := hall 0 (by kernel_rfl)
            have hb1_ := hall 1 (by kernel_rfl)
            have hb3_ := hall 3 (by kernel_rfl)
            have hb4_ := hall 4 (by kernel_rfl)
            have hb5_ := hall 5 (by kernel_rfl)
            have hb6_ := hall 6 (by kernel_rfl)
            have hb8_ := hall 8 (by kernel_rfl)
            have hb9_ := hall 9 (by kernel_rfl)
            have hb10_ := hall 10 (by kernel_rfl)
            have hb11_ := hall 11 (by kernel_rfl)
            have hb12_ := hall 12 (by kernel_rfl)
            have hb13_ := hall 13 (by kernel_rfl)
            subst ha
            obtain rfl := Q_X4_ hb4_
            obtain rfl := Q_X9_ hb9_
            simp only [putSel, hb0_, hb1_, hb3_, hb4_, hb5_, hb6_, hb8_, hb9_, hb10_, hb11_, hb12_, hb13_, if_true, Act.put, List.setIfInBounds_toArray, List.set_cons_zero, List.set_cons_succ]
            have HO170 := Aside0.mk Q_HO170
            clear Q_HO170
            have HO174 := Aside0.mk Q_HO174
            clear Q_HO174
            clear Q_BK161
            have BK176 := Aside0.mk Q_BK176
            clear Q_BK176
            clear Q_HI164
            have HB := Aside0.mk Q_HB
            clear Q_HB
            have HO181 := Aside0.mk (Q_HO181 hb1_)
            clear Q_HO181
            have HA_HO181 := Aside0.mk (Q_HA_HO181 hb1_)
            clear Q_HA_HO181
            clear Q_HI164_e3
            have HO187 := Aside0.mk (Q_HO187 hb6_)
            clear Q_HO187
            have HA_HO187 := Aside0.mk (Q_HA_HO187 hb6_)
            clear Q_HA_HO187
            have HI164 := Aside0.mk (Q_HI164_e8 hb8_)
            clear Q_HI164_e8
            have BK161 := Aside0.mk (Q_BK161_e11 hb11_)
            clear Q_BK161_e11
            clear hall hb0_ hb1_ hb3_ hb4_ hb5_ hb6_ hb8_ hb9_ hb10_ hb11_ hb12_ hb13_
            obtain ⟨co38, eo38⟩ := HA_HO181.out
            clear HA_HO181
            subst eo38
            obtain ⟨co39, eo39⟩ := HA_HO187.out
            clear HA_HO187
            subst eo39
            try go_wp2
            refine bodyPost_ret (results_ctt rfl _ _ gb161 27 #[.int .i64 t165, .int .i64 t166, .bool t167, .slice Ao19 t168.length co19, .bool t171, .slice Ao20 t172.length co20] (0, 0) _ rfl (by (with_reducible repeat (first | refine blk_drewN ?_ _ | refine blk_drew ?_ | refine blk_alloc ?_ _)); exact BK161.out) Try.underlying27 rfl (by kernel_rfl)) rfl ?_
            exact ⟨_, _, by first | rfl | (simp [errW_none, errW_some] <;> rfl) | (simp [*, errW_none, errW_some] <;> rfl), by (with_reducible repeat (first | apply Kd.R_alloc | apply Kd.R_drewN | apply Kd.R_drew)); first | exact Kd.R_mono HO170.out (fun _ hk => hk.1) | exact (HO170).out, by (with_reducible repeat (first | apply Kd.R_alloc | apply Kd.R_drewN | apply Kd.R_drew)); first | exact Kd.R_mono HO174.out (fun _ hk => hk.1) | exact (HO174).out, by repeat (first | (with_reducible first | exact HB.out | apply below_alloc | apply pw_below_drewN | apply below_drew1 | refine below_set ?_ (IsS91.ge HI164.out) | refine below_set ?_ GE161.out | refine below_set ?_ GE176.out) | exact HB.out)⟩
          · rw [if_neg c11] at H
            exact absurd H (by simp)
        · rw [if_neg c10] at H
          exact absurd H (by simp)
      · rw [if_neg c8] at H
        exact absurd H (by simp)
    · rw [if_neg c7] at H
      exact absurd H (by simp)
  · rw [if_neg c5] at H
    have c5b0 : (t177 == 0) = false := beq_eq_false_iff_ne.mpr c5
    have c5b1 : (t177 != 0) = true := bne_iff_ne.mpr c5
    replace H := Option.bind_eq_some_iff.mp H
    obtain ⟨⟨t191, t192⟩, A400, H⟩ := H
    replace H : ((spec_l6Rd_pick.f k t162 t192 250).bind fun bt193 => (some (t165, t166, t167, t168, t171, t172, t191, bt193.1))) = some (r1, r2, r3, r4, r5, r6, r7, r8) := H
    have A40 := Aside0.mk A400
    clear A400
    replace H := Option.bind_eq_some_iff.mp H
    obtain ⟨⟨t193, t194⟩, A410, H⟩ := H
    replace H : (some (t165, t166, t167, t168, t171, t172, t191, t193)) = some (r1, r2, r3, r4, r5, r6, r7, r8) := H
    have A41 := Aside0.mk A410
    clear A410
    simp only [Option.some.injEq, Prod.mk.injEq] at H
    obtain ⟨rfl, rfl, rfl, rfl, rfl, rfl, rfl, rfl⟩ := H
    go_enter Try.func51, Try.ntmps51
    try go_wp2_with (first | ((with_reducible refine gate_dst (N := 2) rfl ?_); refine box_event ?hg (N := 2) ?hd (cs := #[.int .i64 0, .int .i64 0, .bool false, .slice none 0 0, .bool false, .slice none 0 0]) (t := 27) ?hr ?_; (case hd => rfl); (case hg => rfl); (case hr => first | (go_simp; done) | (go_simp; rfl)); intro gb161 hg w42 hbox hb; have n0_ := Aside0.mk (below_step (by repeat (first | (with_reducible first | exact HB.out | apply below_alloc | apply pw_below_drewN | apply below_drew1) | exact HB.out)) hb); have n1_ := Aside0.mk (hbox); have n2_ := Aside0.mk ((by rw [hg]; exact (below_size (by repeat (first | (with_reducible first | exact HB.out | apply below_alloc | apply pw_below_drewN | apply below_drew1) | exact HB.out))) : w.heap.size ≤ gb161)); have n3_ := Aside0.mk ((by rw [hg]; exact (below_size (by repeat (first | (with_reducible first | exact HB.out | apply below_alloc | apply pw_below_drewN | apply below_drew1) | exact HB.out))) : w.heap.size ≤ gb161)); clear HB; have HB := n0_; have BK161 := n1_; have GW161 := n2_; have GE161 := n3_; clear n0_ n1_ n2_ n3_; clear hb hbox hg) | ((with_reducible refine gate_callee (f := 59) rfl ?_); refine goesL_ (some 8) rfl rfl Try.func59 (by kernel_rfl) rfl #[.slice A0 l0.length c0] rfl (by (try simp only [List.map_toArray, List.map_cons, List.map_nil]); first | done | rfl | (simp only [List.length_drop, List.length_take]; rfl)) ?_; (with_reducible refine (spec_l6Open.calls _ _ l0 t162 t163 w _ ?side1 ?side2 ?side3 A2.out).mono ?_); (case side1 => repeat (first | (with_reducible first | exact HB.out | apply below_alloc | apply pw_below_drewN | apply below_drew1 | refine below_set ?_ GE161.out) | exact HB.out)); (case side2 => exact HR0.out); (case side3 => exact HC0.out); rintro e w43 ⟨g164, rfl, hi, hb, hb2⟩; refine ⟨_, rfl, ?_⟩; have n0_ := Aside0.mk (blk_below (g := gb161) (o := .cells #[.int .i64 0, .int .i64 0, .bool false, .slice none 0 0, .bool false, .slice none 0 0] 27 (0, 0)) (by (with_reducible repeat (first | refine blk_drewN ?_ _ | refine blk_drew ?_ | refine blk_alloc ?_ _)); exact BK161.out) hb2); have n1_ := Aside0.mk (hb); have n2_ := Aside0.mk (hi); have n3_ := Aside0.mk (IsS91.ne_blk hi (blk_below (g := gb161) (o := .cells #[.int .i64 0, .int .i64 0, .bool false, .slice none 0 0, .bool false, .slice none 0 0] 27 (0, 0)) (by (with_reducible repeat (first | refine blk_drewN ?_ _ | refine blk_drew ?_ | refine blk_alloc ?_ _)); exact BK161.out) hb2) (by decide)); have n4_ := Aside0.mk (Ne.symm (IsS91.ne_blk hi (blk_below (g := gb161) (o := .cells #[.int .i64 0, .int .i64 0, .bool false, .slice none 0 0, .bool false, .slice none 0 0] 27 (0, 0)) (by (with_reducible repeat (first | refine blk_drewN ?_ _ | refine blk_drew ?_ | refine blk_alloc ?_ _)); exact BK161.out) hb2) (by decide))); clear BK161; clear HB; have BK161 := n0_; have HB := n1_; have HI164 := n2_; have NB164_161 := n3_; have NB161_164 := n4_; clear n0_ n1_ n2_ n3_ n4_; (try clear hb); (try clear hb2); (try clear hk); (try clear hi)) | ((with_reducible refine gate_callee (f := 85) rfl ?_); refine goesL_ (some 10) rfl rfl Try.func85 (by kernel_rfl) rfl #[.pointer (some ⟨g164, 0, none⟩)] rfl (by (try simp only [List.map_toArray, List.map_cons, List.map_nil]); first | done | rfl | (simp only [List.length_drop, List.length_take]; rfl)) ?_; (with_reducible refine (spec_l91Record.calls k g164 t162 t163 t165 t166 t167 t168 t171 t172 t175 w _ ?side1 ?side2 A3.out).mono ?_); (case side1 => repeat (first | (with_reducible first | exact HI164.out | apply IsS91.alloc | apply IsS91.drewN | apply IsS91.drew | apply IsS91.set_1 | refine IsS91.far ?_ NB164_161.out _) | exact HI164.out)); (case side2 => repeat (first | (with_reducible first | exact HB.out | apply below_alloc | apply pw_below_drewN | apply below_drew1 | refine below_set ?_ (IsS91.ge HI164.out) | refine below_set ?_ GE161.out) | exact HB.out)); rintro e w44 ⟨v169, v173, rfl, ho0, ho1, hi, hb, hk⟩; refine ⟨_, rfl, ?_⟩; have n0_ := Aside0.mk (KeepBut.blk hk (g' := gb161) (o := .cells #[.int .i64 0, .int .i64 0, .bool false, .slice none 0 0, .bool false, .slice none 0 0] 27 (0, 0)) (by (with_reducible repeat (first | refine blk_drewN ?_ _ | refine blk_drew ?_ | refine blk_alloc ?_ _)); exact BK161.out) NB161_164.out (by simp)); have n1_ := Aside0.mk (Kd.R_lower ho0 (below_size (by repeat (first | (with_reducible first | exact HB.out | apply below_alloc | apply pw_below_drewN | apply below_drew1 | refine below_set ?_ (IsS91.ge HI164.out) | refine below_set ?_ GE161.out) | exact HB.out)))); have n2_ := Aside0.mk (Kd.R_lower ho1 (below_size (by repeat (first | (with_reducible first | exact HB.out | apply below_alloc | apply pw_below_drewN | apply below_drew1 | refine below_set ?_ (IsS91.ge HI164.out) | refine below_set ?_ GE161.out) | exact HB.out)))); have n3_ := Aside0.mk (hb); have n4_ := Aside0.mk (hi); clear BK161; clear HB; clear HI164; have BK161 := n0_; have HO170 := n1_; have HO174 := n2_; have HB := n3_; have HI164 := n4_; clear n0_ n1_ n2_ n3_ n4_; (try clear hb); (try clear hb2); (try clear hk); (try clear hi); (try clear ho0); (try clear ho1)) | ((with_reducible refine gate_dst (N := 6) rfl ?_); refine box_event ?hg (N := 6) ?hd (cs := #[.int .i64 0, .int .i64 0, .bool false, .slice none 0 0, .bool false, .slice none 0 0]) (t := 27) ?hr ?_; (case hd => rfl); (case hg => rfl); (case hr => first | (go_simp; done) | (go_simp; rfl)); intro gb176 hg w45 hbox hb; have n0_ := Aside0.mk (Kd.R_below (by (with_reducible repeat (first | apply Kd.R_alloc | apply Kd.R_drewN | apply Kd.R_drew)); exact HO170.out) hb); have n1_ := Aside0.mk (Kd.R_below (by (with_reducible repeat (first | apply Kd.R_alloc | apply Kd.R_drewN | apply Kd.R_drew)); exact HO174.out) hb); have n2_ := Aside0.mk (blk_below (g := gb161) (o := .cells #[.int .i64 0, .int .i64 0, .bool false, .slice none 0 0, .bool false, .slice none 0 0] 27 (0, 0)) (by (with_reducible repeat (first | refine blk_drewN ?_ _ | refine blk_drew ?_ | refine blk_alloc ?_ _)); exact BK161.out) hb); have n3_ := Aside0.mk (IsS91.below (by repeat (first | (with_reducible first | exact HI164.out | apply IsS91.alloc | apply IsS91.drewN | apply IsS91.drew | apply IsS91.set_1 | refine IsS91.far ?_ NB164_161.out _) | exact HI164.out)) hb); have n4_ := Aside0.mk (below_step (by repeat (first | (with_reducible first | exact HB.out | apply below_alloc | apply pw_below_drewN | apply below_drew1 | refine below_set ?_ (IsS91.ge HI164.out) | refine below_set ?_ GE161.out) | exact HB.out)) hb); have n5_ := Aside0.mk (hbox); have n6_ := Aside0.mk ((by rw [hg]; exact (below_size (by repeat (first | (with_reducible first | exact HB.out | apply below_alloc | apply pw_below_drewN | apply below_drew1 | refine below_set ?_ (IsS91.ge HI164.out) | refine below_set ?_ GE161.out) | exact HB.out))) : w.heap.size ≤ gb176)); have n7_ := Aside0.mk ((by rw [hg]; exact (below_size (by repeat (first | (with_reducible first | exact HB.out | apply below_alloc | apply pw_below_drewN | apply below_drew1 | refine below_set ?_ (IsS91.ge HI164.out) | refine below_set ?_ GE161.out) | exact HB.out))) : w.heap.size ≤ gb176)); have n8_ := Aside0.mk ((by rw [hg]; exact Nat.ne_of_lt (blk_lt (g := gb161) (o := .cells #[.int .i64 0, .int .i64 0, .bool false, .slice none 0 0, .bool false, .slice none 0 0] 27 (0, 0)) (by (with_reducible repeat (first | refine blk_drewN ?_ _ | refine blk_drew ?_ | refine blk_alloc ?_ _)); exact BK161.out)) : gb161 ≠ gb176)); have n9_ := Aside0.mk ((by rw [hg]; exact Nat.ne_of_gt (blk_lt (g := gb161) (o := .cells #[.int .i64 0, .int .i64 0, .bool false, .slice none 0 0, .bool false, .slice none 0 0] 27 (0, 0)) (by (with_reducible repeat (first | refine blk_drewN ?_ _ | refine blk_drew ?_ | refine blk_alloc ?_ _)); exact BK161.out)) : gb176 ≠ gb161)); have n10_ := Aside0.mk ((by rw [hg]; exact Nat.ne_of_lt (IsS91.lt (show IsS91 w _ g164 t162 t175 from by repeat (first | (with_reducible first | exact HI164.out | apply IsS91.alloc | apply IsS91.drewN | apply IsS91.drew | apply IsS91.set_1 | refine IsS91.far ?_ NB164_161.out _) | exact HI164.out))) : g164 ≠ gb176)); have n11_ := Aside0.mk ((by rw [hg]; exact Nat.ne_of_gt (IsS91.lt (show IsS91 w _ g164 t162 t175 from by repeat (first | (with_reducible first | exact HI164.out | apply IsS91.alloc | apply IsS91.drewN | apply IsS91.drew | apply IsS91.set_1 | refine IsS91.far ?_ NB164_161.out _) | exact HI164.out))) : gb176 ≠ g164)); clear HO170; clear HO174; clear BK161; clear HI164; clear HB; have HO170 := n0_; have HO174 := n1_; have BK161 := n2_; have HI164 := n3_; have HB := n4_; have BK176 := n5_; have GW176 := n6_; have GE176 := n7_; have NB161_176 := n8_; have NB176_161 := n9_; have NB164_176 := n10_; have NB176_164 := n11_; clear n0_ n1_ n2_ n3_ n4_ n5_ n6_ n7_ n8_ n9_ n10_ n11_; clear hb hbox hg; have hnb46 := NB176_161.out; have hnc46 := NB161_176.out; have hnb47 := NB176_164.out; have hnc47 := NB164_176.out; have hcz48_0 : w45.cell? ⟨gb176, 0, none⟩ = some (.int .i64 0) := (blk_cell BK176.out 0).trans rfl; have hcz48_1 : w45.cell? ⟨gb176, 1, none⟩ = some (.int .i64 0) := (blk_cell BK176.out 1).trans rfl; have hcz48_2 : w45.cell? ⟨gb176, 2, none⟩ = some (.bool false) := (blk_cell BK176.out 2).trans rfl; have hcz48_3 : w45.cell? ⟨gb176, 3, none⟩ = some (.slice none 0 0) := (blk_cell BK176.out 3).trans rfl; have hcz48_4 : w45.cell? ⟨gb176, 4, none⟩ = some (.bool false) := (blk_cell BK176.out 4).trans rfl; have hcz48_5 : w45.cell? ⟨gb176, 5, none⟩ = some (.slice none 0 0) := (blk_cell BK176.out 5).trans rfl; have hfz48_0 := blk_frozen BK176.out 0; have hfz48_1 := blk_frozen BK176.out 1; have hfz48_2 := blk_frozen BK176.out 2; have hfz48_3 := blk_frozen BK176.out 3; have hfz48_4 := blk_frozen BK176.out 4; have hfz48_5 := blk_frozen BK176.out 5; obtain ⟨Ao49, co49, eo49⟩ := Kd.R_slice HO170.out; subst eo49; obtain ⟨Ao50, co50, eo50⟩ := Kd.R_slice HO174.out; subst eo50) | ((with_reducible refine gate_callee (f := 65) rfl ?_); refine goesL_ (some 12) rfl rfl Try.func65 (by kernel_rfl) rfl #[.pointer (some ⟨g164, 0, none⟩), .int .i64 16] rfl (by (try simp only [List.map_toArray, List.map_cons, List.map_nil]); first | done | rfl | (simp only [List.length_drop, List.length_take]; rfl)) ?_; (with_reducible refine (spec_l6Rd_pick.calls k g164 t162 t175 16 t177 t178 w _ ?side1 ?side2 A4.out).mono ?_); (case side1 => repeat (first | (with_reducible first | exact HI164.out | apply IsS91.alloc | apply IsS91.drewN | apply IsS91.drew | apply IsS91.set_1 | refine IsS91.far ?_ NB164_161.out _ | refine IsS91.far ?_ NB164_176.out _) | exact HI164.out)); (case side2 => repeat (first | (with_reducible first | exact HB.out | apply below_alloc | apply pw_below_drewN | apply below_drew1 | refine below_set ?_ (IsS91.ge HI164.out) | refine below_set ?_ GE161.out | refine below_set ?_ GE176.out) | exact HB.out)); rintro e w51 ⟨rfl, hi, hb, hk⟩; refine ⟨_, rfl, ?_⟩; have n0_ := Aside0.mk (KeepBut.blk hk (g' := gb161) (o := .cells #[.int .i64 0, .int .i64 0, .bool false, .slice none 0 0, .bool false, .slice none 0 0] 27 (0, 0)) (by (with_reducible repeat (first | refine blk_drewN ?_ _ | refine blk_drew ?_ | refine blk_alloc ?_ _)); refine blk_far ?_ NB161_176.out _; (with_reducible repeat (first | refine blk_drewN ?_ _ | refine blk_drew ?_ | refine blk_alloc ?_ _)); refine blk_far ?_ NB161_176.out _; (with_reducible repeat (first | refine blk_drewN ?_ _ | refine blk_drew ?_ | refine blk_alloc ?_ _)); refine blk_far ?_ NB161_176.out _; (with_reducible repeat (first | refine blk_drewN ?_ _ | refine blk_drew ?_ | refine blk_alloc ?_ _)); refine blk_far ?_ NB161_176.out _; (with_reducible repeat (first | refine blk_drewN ?_ _ | refine blk_drew ?_ | refine blk_alloc ?_ _)); refine blk_far ?_ NB161_176.out _; (with_reducible repeat (first | refine blk_drewN ?_ _ | refine blk_drew ?_ | refine blk_alloc ?_ _)); refine blk_far ?_ NB161_176.out _; (with_reducible repeat (first | refine blk_drewN ?_ _ | refine blk_drew ?_ | refine blk_alloc ?_ _)); exact BK161.out) NB161_164.out (by simp)); have n1_ := Aside0.mk (Kd.R_mono (Kd.R_keep (IsS91.apart (show IsS91 w _ g164 t162 t175 from by repeat (first | (with_reducible first | exact HI164.out | apply IsS91.alloc | apply IsS91.drewN | apply IsS91.drew | apply IsS91.set_1 | refine IsS91.far ?_ NB164_161.out _ | refine IsS91.far ?_ NB164_176.out _) | exact HI164.out)) (by (with_reducible repeat (first | apply Kd.R_alloc | apply Kd.R_drewN | apply Kd.R_drew)); exact (Kd.R_mono (Kd.R_far (p := ⟨gb176, 5, none⟩) (Kd.R_far (p := ⟨gb176, 4, none⟩) (Kd.R_far (p := ⟨gb176, 3, none⟩) (Kd.R_far (p := ⟨gb176, 2, none⟩) (Kd.R_far (p := ⟨gb176, 1, none⟩) (Kd.R_far (p := ⟨gb176, 0, none⟩) (Kd.R_types HO170.out BK176.out (by decide)) (fun _ hk => hk.2) (.int .i64 t165)) (fun _ hk => hk.2) (.int .i64 t166)) (fun _ hk => hk.2) (.bool t167)) (fun _ hk => hk.2) (.slice Ao49 t168.length co49)) (fun _ hk => hk.2) (.bool t171)) (fun _ hk => hk.2) (.slice Ao50 t172.length co50)) (fun _ h_ => h_.1))) (by decide)) hk (fun _ h => h.2)) (fun _ h => h.1)); have n2_ := Aside0.mk (Kd.R_mono (Kd.R_keep (IsS91.apart (show IsS91 w _ g164 t162 t175 from by repeat (first | (with_reducible first | exact HI164.out | apply IsS91.alloc | apply IsS91.drewN | apply IsS91.drew | apply IsS91.set_1 | refine IsS91.far ?_ NB164_161.out _ | refine IsS91.far ?_ NB164_176.out _) | exact HI164.out)) (by (with_reducible repeat (first | apply Kd.R_alloc | apply Kd.R_drewN | apply Kd.R_drew)); exact (Kd.R_mono (Kd.R_far (p := ⟨gb176, 5, none⟩) (Kd.R_far (p := ⟨gb176, 4, none⟩) (Kd.R_far (p := ⟨gb176, 3, none⟩) (Kd.R_far (p := ⟨gb176, 2, none⟩) (Kd.R_far (p := ⟨gb176, 1, none⟩) (Kd.R_far (p := ⟨gb176, 0, none⟩) (Kd.R_types HO174.out BK176.out (by decide)) (fun _ hk => hk.2) (.int .i64 t165)) (fun _ hk => hk.2) (.int .i64 t166)) (fun _ hk => hk.2) (.bool t167)) (fun _ hk => hk.2) (.slice Ao49 t168.length co49)) (fun _ hk => hk.2) (.bool t171)) (fun _ hk => hk.2) (.slice Ao50 t172.length co50)) (fun _ h_ => h_.1))) (by decide)) hk (fun _ h => h.2)) (fun _ h => h.1)); have n3_ := Aside0.mk (KeepBut.blk hk (g' := gb176) (o := .cells #[.int .i64 t165, .int .i64 t166, .bool t167, .slice Ao49 t168.length co49, .bool t171, .slice Ao50 t172.length co50] 27 (0, 0)) (by (with_reducible repeat (first | refine blk_drewN ?_ _ | refine blk_drew ?_ | refine blk_alloc ?_ _)); refine blk_put (cs := #[.int .i64 t165, .int .i64 t166, .bool t167, .slice Ao49 t168.length co49, .bool t171, .slice none 0 0]) ?_ 5 _ rfl; (with_reducible repeat (first | refine blk_drewN ?_ _ | refine blk_drew ?_ | refine blk_alloc ?_ _)); refine blk_put (cs := #[.int .i64 t165, .int .i64 t166, .bool t167, .slice Ao49 t168.length co49, .bool false, .slice none 0 0]) ?_ 4 _ rfl; (with_reducible repeat (first | refine blk_drewN ?_ _ | refine blk_drew ?_ | refine blk_alloc ?_ _)); refine blk_put (cs := #[.int .i64 t165, .int .i64 t166, .bool t167, .slice none 0 0, .bool false, .slice none 0 0]) ?_ 3 _ rfl; (with_reducible repeat (first | refine blk_drewN ?_ _ | refine blk_drew ?_ | refine blk_alloc ?_ _)); refine blk_put (cs := #[.int .i64 t165, .int .i64 t166, .bool false, .slice none 0 0, .bool false, .slice none 0 0]) ?_ 2 _ rfl; (with_reducible repeat (first | refine blk_drewN ?_ _ | refine blk_drew ?_ | refine blk_alloc ?_ _)); refine blk_put (cs := #[.int .i64 t165, .int .i64 0, .bool false, .slice none 0 0, .bool false, .slice none 0 0]) ?_ 1 _ rfl; (with_reducible repeat (first | refine blk_drewN ?_ _ | refine blk_drew ?_ | refine blk_alloc ?_ _)); refine blk_put (cs := #[.int .i64 0, .int .i64 0, .bool false, .slice none 0 0, .bool false, .slice none 0 0]) ?_ 0 _ rfl; (with_reducible repeat (first | refine blk_drewN ?_ _ | refine blk_drew ?_ | refine blk_alloc ?_ _)); exact BK176.out) NB176_164.out (by simp)); have n4_ := Aside0.mk (hb); have n5_ := Aside0.mk (hi); clear BK161; clear HO170; clear HO174; clear BK176; clear HB; clear HI164; have BK161 := n0_; have HO170 := n1_; have HO174 := n2_; have BK176 := n3_; have HB := n4_; have HI164 := n5_; clear n0_ n1_ n2_ n3_ n4_ n5_; (try clear hb); (try clear hb2); (try clear hk); (try clear hi)))
    have n0_ := Aside0.mk (Kd.R_drew HO170.out)
    have n1_ := Aside0.mk (Kd.R_drew HO174.out)
    have n2_ := Aside0.mk (blk_drew BK161.out)
    have n3_ := Aside0.mk (blk_drew BK176.out)
    have n4_ := Aside0.mk (IsS91.drew HI164.out)
    have n5_ := Aside0.mk (below_drew1 HB.out)
    clear HO170
    clear HO174
    clear BK161
    clear BK176
    clear HI164
    clear HB
    have HO170 := n0_
    have HO174 := n1_
    have BK161 := n2_
    have BK176 := n3_
    have HI164 := n4_
    have HB := n5_
    clear n0_ n1_ n2_ n3_ n4_ n5_
    refine start_ (n := 8) (S := fun w' => w'.cell? ⟨gb176, 0, none⟩ = some (.int .i64 t165) ∧ w'.cell? ⟨gb176, 1, none⟩ = some (.int .i64 t166) ∧ w'.cell? ⟨gb176, 2, none⟩ = some (.bool t167) ∧ w'.cell? ⟨gb176, 3, none⟩ = some (.slice Ao49 t168.length co49) ∧ w'.cell? ⟨gb176, 4, none⟩ = some (.bool t171) ∧ w'.cell? ⟨gb176, 5, none⟩ = some (.slice Ao50 t172.length co50)) (ds := []) #[false, false, false, false, false, false, false, false] (by kernel_rfl) rfl rfl ⟨(blk_cell BK176.out 0).trans rfl, (blk_cell BK176.out 1).trans rfl, (blk_cell BK176.out 2).trans rfl, (blk_cell BK176.out 3).trans rfl, (blk_cell BK176.out 4).trans rfl, (blk_cell BK176.out 5).trans rfl⟩ (fun hHeld => ?_); refine with_tabW spec_DrawRecordBytes.tab5 spec_DrawRecordBytes.bits5 (fun HT_ HW_ => ?_)
    generalize w51.drew = w52 at HO170 HO174 BK161 BK176 HI164 HB hHeld ⊢
    refine pure_ (i := 1) (N := some 26) (v := ?_) (a' := ?_) #[false, true, false, false, false, false, false, false] rfl rfl (any_of HT_.out (by kernel_rfl)) (fun _ _ _ h => h) (Or.inl ⟨by rfl, ?_⟩) ?_ ?_
    rotate_left
    · intro w'
      go_simp
      with_reducible rfl
    rotate_left
    · simp only [Act.put, List.setIfInBounds_toArray, List.set_cons_zero, List.set_cons_succ, i64_w, i32_w]
      rfl
    refine pure_ (i := 3) (N := some 28) (v := ?_) (a' := ?_) #[false, true, false, true, false, false, false, false] rfl rfl (any_of HT_.out (by kernel_rfl)) (fun _ _ _ h => h) (Or.inl ⟨by rfl, ?_⟩) ?_ ?_
    rotate_left
    · intro w'
      go_simp
      with_reducible rfl
    rotate_left
    · simp only [Act.put, List.setIfInBounds_toArray, List.set_cons_zero, List.set_cons_succ, i64_w, i32_w]
      rfl
    refine take_ (i := 0) (N := some 25) (v := ?_) (a' := ?_) #[true, true, false, true, false, false, false, false] rfl rfl (take_ofW HT_.out HW_.out (by kernel_rfl)) (fun _ _ _ h => h) (Or.inl ⟨by rfl, ?_⟩) hHeld ?_ ?_
    rotate_left
    · rintro w' ⟨s0, s1, s2, s3, s4, s5⟩
      go_simp
      with_reducible rfl
    rotate_left
    · simp only [Act.put, List.setIfInBounds_toArray, List.set_cons_zero, List.set_cons_succ, i64_w, i32_w]
      rfl
    refine one_ (i := 2) (N := some 27) #[true, true, true, true, false, false, false, false] rfl rfl (one_of HT_.out (by kernel_rfl)) (by decide) (fun K hK => ?_)
    refine goes_ Try.func65 (by kernel_rfl) rfl #[.pointer (some ⟨g164, 0, none⟩), .int .i64 60] (by rfl) rfl rfl (by (try simp only [List.map_toArray, List.map_cons, List.map_nil]); first | done | rfl | (simp only [List.length_drop, List.length_take]; rfl)) ?_
    with_reducible refine (spec_l6Rd_pick.calls k g164 t162 t178 60 t191 t192 w _ ?side1 ?side2 A40.out).mono ?_
    (case side1 => repeat (first | (with_reducible first | exact HI164.out | apply IsS91.alloc | apply IsS91.drewN | apply IsS91.drew | apply IsS91.set_1 | refine IsS91.far ?_ NB164_161.out _ | refine IsS91.far ?_ NB164_176.out _) | exact HI164.out))
    (case side2 => repeat (first | (with_reducible first | exact HB.out | apply below_alloc | apply pw_below_drewN | apply below_drew1 | refine below_set ?_ (IsS91.ge HI164.out) | refine below_set ?_ GE161.out | refine below_set ?_ GE176.out) | exact HB.out))
    rintro e w53 ⟨rfl, hi, hb, hk⟩
    refine ⟨_, rfl, ?_⟩
    have n0_ := Aside0.mk (KeepBut.blk hk (g' := gb161) (o := .cells #[.int .i64 0, .int .i64 0, .bool false, .slice none 0 0, .bool false, .slice none 0 0] 27 (0, 0)) (by (with_reducible repeat (first | refine blk_drewN ?_ _ | refine blk_drew ?_ | refine blk_alloc ?_ _)); exact BK161.out) NB161_164.out (by simp))
    have n1_ := Aside0.mk (Kd.R_mono (Kd.R_keep (IsS91.apart (show IsS91 w _ g164 t162 t178 from by repeat (first | (with_reducible first | exact HI164.out | apply IsS91.alloc | apply IsS91.drewN | apply IsS91.drew | apply IsS91.set_1 | refine IsS91.far ?_ NB164_161.out _ | refine IsS91.far ?_ NB164_176.out _) | exact HI164.out)) (by (with_reducible repeat (first | apply Kd.R_alloc | apply Kd.R_drewN | apply Kd.R_drew)); exact HO170.out) (by decide)) hk (fun _ h => h.2)) (fun _ h => h.1))
    have n2_ := Aside0.mk (Kd.R_mono (Kd.R_keep (IsS91.apart (show IsS91 w _ g164 t162 t178 from by repeat (first | (with_reducible first | exact HI164.out | apply IsS91.alloc | apply IsS91.drewN | apply IsS91.drew | apply IsS91.set_1 | refine IsS91.far ?_ NB164_161.out _ | refine IsS91.far ?_ NB164_176.out _) | exact HI164.out)) (by (with_reducible repeat (first | apply Kd.R_alloc | apply Kd.R_drewN | apply Kd.R_drew)); exact HO174.out) (by decide)) hk (fun _ h => h.2)) (fun _ h => h.1))
    have n3_ := Aside0.mk (KeepBut.blk hk (g' := gb176) (o := .cells #[.int .i64 t165, .int .i64 t166, .bool t167, .slice Ao49 t168.length co49, .bool t171, .slice Ao50 t172.length co50] 27 (0, 0)) (by (with_reducible repeat (first | refine blk_drewN ?_ _ | refine blk_drew ?_ | refine blk_alloc ?_ _)); exact BK176.out) NB176_164.out (by simp))
    have n4_ := Aside0.mk (hb)
    have n5_ := Aside0.mk (hi)
    clear BK161
    clear HO170
    clear HO174
    clear BK176
    clear HB
    clear HI164
    have BK161 := n0_
    have HO170 := n1_
    have HO174 := n2_
    have BK176 := n3_
    have HB := n4_
    have HI164 := n5_
    clear n0_ n1_ n2_ n3_ n4_ n5_
    (try clear hb)
    (try clear hb2)
    (try clear hk)
    (try clear hi)
    refine hK.out _ _ ⟨(blk_cell BK176.out 0).trans rfl, (blk_cell BK176.out 1).trans rfl, (blk_cell BK176.out 2).trans rfl, (blk_cell BK176.out 3).trans rfl, (blk_cell BK176.out 4).trans rfl, (blk_cell BK176.out 5).trans rfl⟩ (fun hHeld => ?_)
    clear hK K
    refine norm_ (a' := ?_) ?_ ?_
    rotate_left
    · show Act.put _ (some 27) _ = _
      simp only [Act.put, List.setIfInBounds_toArray, List.set_cons_zero, List.set_cons_succ, i64_w, i32_w]
      rfl
    refine one_ (i := 4) (N := some 29) #[true, true, true, true, true, false, false, false] rfl rfl (one_of HT_.out (by kernel_rfl)) (by decide) (fun K hK => ?_)
    refine goes_ Try.func65 (by kernel_rfl) rfl #[.pointer (some ⟨g164, 0, none⟩), .int .i64 250] (by rfl) rfl rfl (by (try simp only [List.map_toArray, List.map_cons, List.map_nil]); first | done | rfl | (simp only [List.length_drop, List.length_take]; rfl)) ?_
    with_reducible refine (spec_l6Rd_pick.calls k g164 t162 t192 250 t193 t194 w _ ?side1 ?side2 A41.out).mono ?_
    (case side1 => repeat (first | (with_reducible first | exact HI164.out | apply IsS91.alloc | apply IsS91.drewN | apply IsS91.drew | apply IsS91.set_1 | refine IsS91.far ?_ NB164_161.out _ | refine IsS91.far ?_ NB164_176.out _) | exact HI164.out))
    (case side2 => repeat (first | (with_reducible first | exact HB.out | apply below_alloc | apply pw_below_drewN | apply below_drew1 | refine below_set ?_ (IsS91.ge HI164.out) | refine below_set ?_ GE161.out | refine below_set ?_ GE176.out) | exact HB.out))
    rintro e w54 ⟨rfl, hi, hb, hk⟩
    refine ⟨_, rfl, ?_⟩
    have n0_ := Aside0.mk (KeepBut.blk hk (g' := gb161) (o := .cells #[.int .i64 0, .int .i64 0, .bool false, .slice none 0 0, .bool false, .slice none 0 0] 27 (0, 0)) (by (with_reducible repeat (first | refine blk_drewN ?_ _ | refine blk_drew ?_ | refine blk_alloc ?_ _)); exact BK161.out) NB161_164.out (by simp))
    have n1_ := Aside0.mk (Kd.R_mono (Kd.R_keep (IsS91.apart (show IsS91 w _ g164 t162 t192 from by repeat (first | (with_reducible first | exact HI164.out | apply IsS91.alloc | apply IsS91.drewN | apply IsS91.drew | apply IsS91.set_1 | refine IsS91.far ?_ NB164_161.out _ | refine IsS91.far ?_ NB164_176.out _) | exact HI164.out)) (by (with_reducible repeat (first | apply Kd.R_alloc | apply Kd.R_drewN | apply Kd.R_drew)); exact HO170.out) (by decide)) hk (fun _ h => h.2)) (fun _ h => h.1))
    have n2_ := Aside0.mk (Kd.R_mono (Kd.R_keep (IsS91.apart (show IsS91 w _ g164 t162 t192 from by repeat (first | (with_reducible first | exact HI164.out | apply IsS91.alloc | apply IsS91.drewN | apply IsS91.drew | apply IsS91.set_1 | refine IsS91.far ?_ NB164_161.out _ | refine IsS91.far ?_ NB164_176.out _) | exact HI164.out)) (by (with_reducible repeat (first | apply Kd.R_alloc | apply Kd.R_drewN | apply Kd.R_drew)); exact HO174.out) (by decide)) hk (fun _ h => h.2)) (fun _ h => h.1))
    have n3_ := Aside0.mk (KeepBut.blk hk (g' := gb176) (o := .cells #[.int .i64 t165, .int .i64 t166, .bool t167, .slice Ao49 t168.length co49, .bool t171, .slice Ao50 t172.length co50] 27 (0, 0)) (by (with_reducible repeat (first | refine blk_drewN ?_ _ | refine blk_drew ?_ | refine blk_alloc ?_ _)); exact BK176.out) NB176_164.out (by simp))
    have n4_ := Aside0.mk (hb)
    have n5_ := Aside0.mk (hi)
    clear BK161
    clear HO170
    clear HO174
    clear BK176
    clear HB
    clear HI164
    have BK161 := n0_
    have HO170 := n1_
    have HO174 := n2_
    have BK176 := n3_
    have HB := n4_
    have HI164 := n5_
    clear n0_ n1_ n2_ n3_ n4_ n5_
    (try clear hb)
    (try clear hb2)
    (try clear hk)
    (try clear hi)
    refine hK.out _ _ ⟨(blk_cell BK176.out 0).trans rfl, (blk_cell BK176.out 1).trans rfl, (blk_cell BK176.out 2).trans rfl, (blk_cell BK176.out 3).trans rfl, (blk_cell BK176.out 4).trans rfl, (blk_cell BK176.out 5).trans rfl⟩ (fun hHeld => ?_)
    clear hK K
    refine norm_ (a' := ?_) ?_ ?_
    rotate_left
    · show Act.put _ (some 29) _ = _
      simp only [Act.put, List.setIfInBounds_toArray, List.set_cons_zero, List.set_cons_succ, i64_w, i32_w]
      rfl
    refine one_ (i := 5) (N := none) #[true, true, true, true, true, true, false, false] rfl rfl (one_of HT_.out (by kernel_rfl)) (by decide) (fun K hK => ?_)
    have hs55 : w54.cell? ⟨gb161, 0, none⟩ = some (.int .i64 0) := (blk_cell BK161.out 0).trans rfl
    have hfs55 := blk_frozen BK161.out 0
    have hns55_1 := NB176_161.out
    have hms55_1 := NB161_176.out
    have hs56 : w54.cell? ⟨gb161, 1, none⟩ = some (.int .i64 0) := (blk_cell BK161.out 1).trans rfl
    have hfs56 := blk_frozen BK161.out 1
    have hns56_1 := NB176_161.out
    have hms56_1 := NB161_176.out
    have hs57 : w54.cell? ⟨gb161, 2, none⟩ = some (.bool false) := (blk_cell BK161.out 2).trans rfl
    have hfs57 := blk_frozen BK161.out 2
    have hns57_1 := NB176_161.out
    have hms57_1 := NB161_176.out
    have hs58 : w54.cell? ⟨gb161, 3, none⟩ = some (.slice none 0 0) := (blk_cell BK161.out 3).trans rfl
    have hfs58 := blk_frozen BK161.out 3
    have hns58_1 := NB176_161.out
    have hms58_1 := NB161_176.out
    have hs59 : w54.cell? ⟨gb161, 4, none⟩ = some (.bool false) := (blk_cell BK161.out 4).trans rfl
    have hfs59 := blk_frozen BK161.out 4
    have hns59_1 := NB176_161.out
    have hms59_1 := NB161_176.out
    have hs60 : w54.cell? ⟨gb161, 5, none⟩ = some (.slice none 0 0) := (blk_cell BK161.out 5).trans rfl
    have hfs60 := blk_frozen BK161.out 5
    have hns60_1 := NB176_161.out
    have hms60_1 := NB161_176.out
    refine skip_ (w1 := ?_) (by rfl) rfl ?_ ?_
    rotate_left
    · go_simp
      rfl
    refine hK.out _ _ ⟨((cell_far (p := ⟨gb161, _, none⟩) NB176_161.out _).trans (((cell_far (p := ⟨gb161, _, none⟩) NB176_161.out _).trans (((cell_far (p := ⟨gb161, _, none⟩) NB176_161.out _).trans (((cell_far (p := ⟨gb161, _, none⟩) NB176_161.out _).trans (((cell_far (p := ⟨gb161, _, none⟩) NB176_161.out _).trans (((cell_far (p := ⟨gb161, _, none⟩) NB176_161.out _).trans (hHeld.1)))))))))))), ((cell_far (p := ⟨gb161, _, none⟩) NB176_161.out _).trans (((cell_far (p := ⟨gb161, _, none⟩) NB176_161.out _).trans (((cell_far (p := ⟨gb161, _, none⟩) NB176_161.out _).trans (((cell_far (p := ⟨gb161, _, none⟩) NB176_161.out _).trans (((cell_far (p := ⟨gb161, _, none⟩) NB176_161.out _).trans (((cell_far (p := ⟨gb161, _, none⟩) NB176_161.out _).trans (hHeld.2.1)))))))))))), ((cell_far (p := ⟨gb161, _, none⟩) NB176_161.out _).trans (((cell_far (p := ⟨gb161, _, none⟩) NB176_161.out _).trans (((cell_far (p := ⟨gb161, _, none⟩) NB176_161.out _).trans (((cell_far (p := ⟨gb161, _, none⟩) NB176_161.out _).trans (((cell_far (p := ⟨gb161, _, none⟩) NB176_161.out _).trans (((cell_far (p := ⟨gb161, _, none⟩) NB176_161.out _).trans (hHeld.2.2.1)))))))))))), ((cell_far (p := ⟨gb161, _, none⟩) NB176_161.out _).trans (((cell_far (p := ⟨gb161, _, none⟩) NB176_161.out _).trans (((cell_far (p := ⟨gb161, _, none⟩) NB176_161.out _).trans (((cell_far (p := ⟨gb161, _, none⟩) NB176_161.out _).trans (((cell_far (p := ⟨gb161, _, none⟩) NB176_161.out _).trans (((cell_far (p := ⟨gb161, _, none⟩) NB176_161.out _).trans (hHeld.2.2.2.1)))))))))))), ((cell_far (p := ⟨gb161, _, none⟩) NB176_161.out _).trans (((cell_far (p := ⟨gb161, _, none⟩) NB176_161.out _).trans (((cell_far (p := ⟨gb161, _, none⟩) NB176_161.out _).trans (((cell_far (p := ⟨gb161, _, none⟩) NB176_161.out _).trans (((cell_far (p := ⟨gb161, _, none⟩) NB176_161.out _).trans (((cell_far (p := ⟨gb161, _, none⟩) NB176_161.out _).trans (hHeld.2.2.2.2.1)))))))))))), ((cell_far (p := ⟨gb161, _, none⟩) NB176_161.out _).trans (((cell_far (p := ⟨gb161, _, none⟩) NB176_161.out _).trans (((cell_far (p := ⟨gb161, _, none⟩) NB176_161.out _).trans (((cell_far (p := ⟨gb161, _, none⟩) NB176_161.out _).trans (((cell_far (p := ⟨gb161, _, none⟩) NB176_161.out _).trans (((cell_far (p := ⟨gb161, _, none⟩) NB176_161.out _).trans (hHeld.2.2.2.2.2))))))))))))⟩ (fun hHeld => ?_)
    clear hK K
    refine pure_ (i := 6) (N := some 3) (v := ?_) (a' := ?_) #[true, true, true, true, true, true, true, false] rfl rfl (any_of HT_.out (by kernel_rfl)) (fun _ _ _ h => h) (Or.inl ⟨by rfl, ?_⟩) ?_ ?_
    rotate_left
    · intro w'
      go_simp
      with_reducible rfl
    rotate_left
    · simp only [Act.put, List.setIfInBounds_toArray, List.set_cons_zero, List.set_cons_succ, i64_w, i32_w]
      rfl
    refine pure_ (i := 7) (N := some 4) (v := ?_) (a' := ?_) #[true, true, true, true, true, true, true, true] rfl rfl (any_of HT_.out (by kernel_rfl)) (fun _ _ _ h => h) (Or.inl ⟨by rfl, ?_⟩) ?_ ?_
    rotate_left
    · intro w'
      go_simp
      with_reducible rfl
    rotate_left
    · simp only [Act.put, List.setIfInBounds_toArray, List.set_cons_zero, List.set_cons_succ, i64_w, i32_w]
      rfl
    refine done_ (done_of HT_.out (by kernel_rfl)) ?_
    try go_wp2
    refine bodyPost_ret (results_ctt rfl _ _ gb161 27 #[.int .i64 t165, .int .i64 t166, .bool t167, .slice Ao49 t168.length co49, .bool t171, .slice Ao50 t172.length co50] (0, 0) _ rfl (by (with_reducible repeat (first | refine blk_drewN ?_ _ | refine blk_drew ?_ | refine blk_alloc ?_ _)); refine blk_put (cs := #[.int .i64 t165, .int .i64 t166, .bool t167, .slice Ao49 t168.length co49, .bool t171, .slice none 0 0]) ?_ 5 _ rfl; (with_reducible repeat (first | refine blk_drewN ?_ _ | refine blk_drew ?_ | refine blk_alloc ?_ _)); refine blk_put (cs := #[.int .i64 t165, .int .i64 t166, .bool t167, .slice Ao49 t168.length co49, .bool false, .slice none 0 0]) ?_ 4 _ rfl; (with_reducible repeat (first | refine blk_drewN ?_ _ | refine blk_drew ?_ | refine blk_alloc ?_ _)); refine blk_put (cs := #[.int .i64 t165, .int .i64 t166, .bool t167, .slice none 0 0, .bool false, .slice none 0 0]) ?_ 3 _ rfl; (with_reducible repeat (first | refine blk_drewN ?_ _ | refine blk_drew ?_ | refine blk_alloc ?_ _)); refine blk_put (cs := #[.int .i64 t165, .int .i64 t166, .bool false, .slice none 0 0, .bool false, .slice none 0 0]) ?_ 2 _ rfl; (with_reducible repeat (first | refine blk_drewN ?_ _ | refine blk_drew ?_ | refine blk_alloc ?_ _)); refine blk_put (cs := #[.int .i64 t165, .int .i64 0, .bool false, .slice none 0 0, .bool false, .slice none 0 0]) ?_ 1 _ rfl; (with_reducible repeat (first | refine blk_drewN ?_ _ | refine blk_drew ?_ | refine blk_alloc ?_ _)); refine blk_put (cs := #[.int .i64 0, .int .i64 0, .bool false, .slice none 0 0, .bool false, .slice none 0 0]) ?_ 0 _ rfl; (with_reducible repeat (first | refine blk_drewN ?_ _ | refine blk_drew ?_ | refine blk_alloc ?_ _)); exact BK161.out) Try.underlying27 rfl (by kernel_rfl)) rfl ?_
    exact ⟨_, _, by first | rfl | (simp [errW_none, errW_some] <;> rfl) | (simp [*, errW_none, errW_some] <;> rfl), by (with_reducible repeat (first | apply Kd.R_alloc | apply Kd.R_drewN | apply Kd.R_drew)); exact Kd.R_mono (Kd.R_far (p := ⟨gb161, 5, none⟩) (Kd.R_far (p := ⟨gb161, 4, none⟩) (Kd.R_far (p := ⟨gb161, 3, none⟩) (Kd.R_far (p := ⟨gb161, 2, none⟩) (Kd.R_far (p := ⟨gb161, 1, none⟩) (Kd.R_far (p := ⟨gb161, 0, none⟩) (Kd.R_types HO170.out BK161.out (by decide)) (fun _ hk => hk.2) (.int .i64 t165)) (fun _ hk => hk.2) (.int .i64 t166)) (fun _ hk => hk.2) (.bool t167)) (fun _ hk => hk.2) (.slice Ao49 t168.length co49)) (fun _ hk => hk.2) (.bool t171)) (fun _ hk => hk.2) (.slice Ao50 t172.length co50)) (fun _ hk => hk.1), by (with_reducible repeat (first | apply Kd.R_alloc | apply Kd.R_drewN | apply Kd.R_drew)); exact Kd.R_mono (Kd.R_far (p := ⟨gb161, 5, none⟩) (Kd.R_far (p := ⟨gb161, 4, none⟩) (Kd.R_far (p := ⟨gb161, 3, none⟩) (Kd.R_far (p := ⟨gb161, 2, none⟩) (Kd.R_far (p := ⟨gb161, 1, none⟩) (Kd.R_far (p := ⟨gb161, 0, none⟩) (Kd.R_types HO174.out BK161.out (by decide)) (fun _ hk => hk.2) (.int .i64 t165)) (fun _ hk => hk.2) (.int .i64 t166)) (fun _ hk => hk.2) (.bool t167)) (fun _ hk => hk.2) (.slice Ao49 t168.length co49)) (fun _ hk => hk.2) (.bool t171)) (fun _ hk => hk.2) (.slice Ao50 t172.length co50)) (fun _ hk => hk.1), by repeat (first | (with_reducible first | exact HB.out | apply below_alloc | apply pw_below_drewN | apply below_drew1 | refine below_set ?_ (IsS91.ge HI164.out) | refine below_set ?_ GE161.out | refine below_set ?_ GE176.out) | exact HB.out)⟩

/-! ### spec_DrawRecordSize: function 47 -/
def spec_DrawRecordSize.f (k : Nat) (l0 : List Int) : Option (Int × Int × Bool × List Int × Bool × List Int × Int × Int) := (spec_DrawRecordBytes.f k l0).bind fun bt196 => (some (bt196.1, bt196.2.1, bt196.2.2.1, bt196.2.2.2.1, bt196.2.2.2.2.1, bt196.2.2.2.2.2.1, bt196.2.2.2.2.2.2.1, bt196.2.2.2.2.2.2.2))
theorem spec_DrawRecordSize.mono : ∀ a0 k, LeO (spec_DrawRecordSize.f k a0) (spec_DrawRecordSize.f (k + 1) a0) := by
  intro a0 k
  unfold spec_DrawRecordSize.f
  repeat' first
      | (with_reducible exact spec_DrawRecordBytes.mono _ _)
      | (with_reducible exact LeO.refl _)
      | (with_reducible exact LeO.none _)
      | (with_reducible refine LeO.ite ?_ ?_)
      | (with_reducible refine LeO.bind ?_ (fun _ => ?_))
      | exact spec_DrawRecordBytes.mono _ _
      | exact LeO.none _
      | refine LeO.ite ?_ ?_
      | refine LeO.bind ?_ (fun _ => ?_)
set_option maxHeartbeats 8000000 in
set_option maxRecDepth 100000 in
theorem spec_DrawRecordSize.calls (k : Nat) (A0 : Option Addr) (c0 : Nat) (l0 : List Int) (r1 : Int) (r2 : Int) (r3 : Bool) (r4 : List Int) (r5 : Bool) (r6 : List Int) (r7 : Int) (r8 : Int) (w : World) (hr0 : Kd.C (Kd.int .u8) w A0 l0.length l0) (hc0 : l0.length ≤ c0) (h : spec_DrawRecordSize.f k l0 = some (r1, r2, r3, r4, r5, r6, r7, r8)) :
    Calls Try.prog 47 #[.slice A0 l0.length c0] w fun e w' => ∃ v3_ v5_ : Value, e = .returned (.tuple #[.agg #[.int .i64 r1, .int .i64 r2, .bool r3, v3_, .bool r5, v5_], .int .i64 r7, .int .i64 r8]) ∧ Kd.R (Kd.int .i64) 3 w' w.heap.size (fun k_ => some k_ ≠ (v5_ : Value).ownBlock) v3_ r4 ∧ Kd.R (Kd.int .i64) 3 w' w.heap.size (fun k_ => some k_ ≠ (v3_ : Value).ownBlock) v5_ r6 ∧ Below w.heap.size w w' := by
  have hu27 := Try.underlying27
  have HR0 := Aside0.mk hr0
  have HC0 := Aside0.mk hc0
  clear hr0 hc0
  have HB := Aside0.mk (Below.refl w.heap.size w)
  have H : ((spec_DrawRecordBytes.f k l0).bind fun bt196 => (some (bt196.1, bt196.2.1, bt196.2.2.1, bt196.2.2.2.1, bt196.2.2.2.2.1, bt196.2.2.2.2.2.1, bt196.2.2.2.2.2.2.1, bt196.2.2.2.2.2.2.2))) = some (r1, r2, r3, r4, r5, r6, r7, r8) := h
  clear h
  replace H := Option.bind_eq_some_iff.mp H
  obtain ⟨⟨t196, t197, t198, t199, t202, t203, t206, t207⟩, A20, H⟩ := H
  replace H : (some (t196, t197, t198, t199, t202, t203, t206, t207)) = some (r1, r2, r3, r4, r5, r6, r7, r8) := H
  have A2 := Aside0.mk A20
  clear A20
  simp only [Option.some.injEq, Prod.mk.injEq] at H
  obtain ⟨rfl, rfl, rfl, rfl, rfl, rfl, rfl, rfl⟩ := H
  go_enter Try.func47, Try.ntmps47
  go_wp2_with (first | ((with_reducible refine gate_dst (N := 2) rfl ?_); refine box_event ?hg (N := 2) ?hd (cs := #[.int .i64 0, .int .i64 0, .bool false, .slice none 0 0, .bool false, .slice none 0 0]) (t := 27) ?hr ?_; (case hd => rfl); (case hg => rfl); (case hr => first | (go_simp; done) | (go_simp; rfl)); intro gb195 hg w3 hbox hb; have n0_ := Aside0.mk (below_step (by repeat (first | (with_reducible first | exact HB.out | apply below_alloc | apply pw_below_drewN | apply below_drew1) | exact HB.out)) hb); have n1_ := Aside0.mk (hbox); have n2_ := Aside0.mk ((by rw [hg]; exact (below_size (by repeat (first | (with_reducible first | exact HB.out | apply below_alloc | apply pw_below_drewN | apply below_drew1) | exact HB.out))) : w.heap.size ≤ gb195)); have n3_ := Aside0.mk ((by rw [hg]; exact (below_size (by repeat (first | (with_reducible first | exact HB.out | apply below_alloc | apply pw_below_drewN | apply below_drew1) | exact HB.out))) : w.heap.size ≤ gb195)); clear HB; have HB := n0_; have BK195 := n1_; have GW195 := n2_; have GE195 := n3_; clear n0_ n1_ n2_ n3_; clear hb hbox hg) | ((with_reducible refine gate_callee (f := 51) rfl ?_); refine goesL_ (some 6) rfl rfl Try.func51 (by kernel_rfl) rfl #[.slice A0 l0.length c0] rfl (by (try simp only [List.map_toArray, List.map_cons, List.map_nil]); first | done | rfl | (simp only [List.length_drop, List.length_take]; rfl)) ?_; (with_reducible refine (spec_DrawRecordBytes.calls k _ _ l0 t196 t197 t198 t199 t202 t203 t206 t207 _ ?side1 ?side2 A2.out).mono ?_); (case side1 => repeat (first | exact (Kd.C_below HR0.out HB.out) | (with_reducible refine Kd.C_alloc ?_ _) | (with_reducible refine Kd.C_drewN ?_ _) | (with_reducible refine Kd.C_drew ?_))); (case side2 => exact HC0.out); rintro e w4 ⟨v200, v204, rfl, ho0, ho1, hb⟩; refine ⟨_, rfl, ?_⟩; have n0_ := Aside0.mk (Kd.R_lower ho0 (below_size (by repeat (first | (with_reducible first | exact HB.out | apply below_alloc | apply pw_below_drewN | apply below_drew1 | refine below_set ?_ GE195.out) | exact HB.out)))); have n1_ := Aside0.mk (Kd.R_lower ho1 (below_size (by repeat (first | (with_reducible first | exact HB.out | apply below_alloc | apply pw_below_drewN | apply below_drew1 | refine below_set ?_ GE195.out) | exact HB.out)))); have n2_ := Aside0.mk (blk_below (g := gb195) (o := .cells #[.int .i64 0, .int .i64 0, .bool false, .slice none 0 0, .bool false, .slice none 0 0] 27 (0, 0)) (by (with_reducible repeat (first | refine blk_drewN ?_ _ | refine blk_drew ?_ | refine blk_alloc ?_ _)); exact BK195.out) hb); have n3_ := Aside0.mk (below_step (by repeat (first | (with_reducible first | exact HB.out | apply below_alloc | apply pw_below_drewN | apply below_drew1 | refine below_set ?_ GE195.out) | exact HB.out)) hb); clear BK195; clear HB; have HO201 := n0_; have HO205 := n1_; have BK195 := n2_; have HB := n3_; clear n0_ n1_ n2_ n3_; (try clear hb); (try clear hb2); (try clear hk); (try clear hi); (try clear ho0); (try clear ho1); have hcz5_0 : w4.cell? ⟨gb195, 0, none⟩ = some (.int .i64 0) := (blk_cell BK195.out 0).trans rfl; have hcz5_1 : w4.cell? ⟨gb195, 1, none⟩ = some (.int .i64 0) := (blk_cell BK195.out 1).trans rfl; have hcz5_2 : w4.cell? ⟨gb195, 2, none⟩ = some (.bool false) := (blk_cell BK195.out 2).trans rfl; have hcz5_3 : w4.cell? ⟨gb195, 3, none⟩ = some (.slice none 0 0) := (blk_cell BK195.out 3).trans rfl; have hcz5_4 : w4.cell? ⟨gb195, 4, none⟩ = some (.bool false) := (blk_cell BK195.out 4).trans rfl; have hcz5_5 : w4.cell? ⟨gb195, 5, none⟩ = some (.slice none 0 0) := (blk_cell BK195.out 5).trans rfl; have hfz5_0 := blk_frozen BK195.out 0; have hfz5_1 := blk_frozen BK195.out 1; have hfz5_2 := blk_frozen BK195.out 2; have hfz5_3 := blk_frozen BK195.out 3; have hfz5_4 := blk_frozen BK195.out 4; have hfz5_5 := blk_frozen BK195.out 5; obtain ⟨Ao6, co6, eo6⟩ := Kd.R_slice HO201.out; subst eo6; obtain ⟨Ao7, co7, eo7⟩ := Kd.R_slice HO205.out; subst eo7))
  refine bodyPost_ret (results_ctt rfl _ _ gb195 27 #[.int .i64 t196, .int .i64 t197, .bool t198, .slice Ao6 t199.length co6, .bool t202, .slice Ao7 t203.length co7] (0, 0) _ rfl (by (with_reducible repeat (first | refine blk_drewN ?_ _ | refine blk_drew ?_ | refine blk_alloc ?_ _)); refine blk_put (cs := #[.int .i64 t196, .int .i64 t197, .bool t198, .slice Ao6 t199.length co6, .bool t202, .slice none 0 0]) ?_ 5 _ rfl; (with_reducible repeat (first | refine blk_drewN ?_ _ | refine blk_drew ?_ | refine blk_alloc ?_ _)); refine blk_put (cs := #[.int .i64 t196, .int .i64 t197, .bool t198, .slice Ao6 t199.length co6, .bool false, .slice none 0 0]) ?_ 4 _ rfl; (with_reducible repeat (first | refine blk_drewN ?_ _ | refine blk_drew ?_ | refine blk_alloc ?_ _)); refine blk_put (cs := #[.int .i64 t196, .int .i64 t197, .bool t198, .slice none 0 0, .bool false, .slice none 0 0]) ?_ 3 _ rfl; (with_reducible repeat (first | refine blk_drewN ?_ _ | refine blk_drew ?_ | refine blk_alloc ?_ _)); refine blk_put (cs := #[.int .i64 t196, .int .i64 t197, .bool false, .slice none 0 0, .bool false, .slice none 0 0]) ?_ 2 _ rfl; (with_reducible repeat (first | refine blk_drewN ?_ _ | refine blk_drew ?_ | refine blk_alloc ?_ _)); refine blk_put (cs := #[.int .i64 t196, .int .i64 0, .bool false, .slice none 0 0, .bool false, .slice none 0 0]) ?_ 1 _ rfl; (with_reducible repeat (first | refine blk_drewN ?_ _ | refine blk_drew ?_ | refine blk_alloc ?_ _)); refine blk_put (cs := #[.int .i64 0, .int .i64 0, .bool false, .slice none 0 0, .bool false, .slice none 0 0]) ?_ 0 _ rfl; (with_reducible repeat (first | refine blk_drewN ?_ _ | refine blk_drew ?_ | refine blk_alloc ?_ _)); exact BK195.out) Try.underlying27 rfl (by kernel_rfl)) rfl ?_
  exact ⟨_, _, by first | rfl | (simp [errW_none, errW_some] <;> rfl) | (simp [*, errW_none, errW_some] <;> rfl), by (with_reducible repeat (first | apply Kd.R_alloc | apply Kd.R_drewN | apply Kd.R_drew)); exact Kd.R_mono (Kd.R_far (p := ⟨gb195, 5, none⟩) (Kd.R_far (p := ⟨gb195, 4, none⟩) (Kd.R_far (p := ⟨gb195, 3, none⟩) (Kd.R_far (p := ⟨gb195, 2, none⟩) (Kd.R_far (p := ⟨gb195, 1, none⟩) (Kd.R_far (p := ⟨gb195, 0, none⟩) (Kd.R_types HO201.out BK195.out (by decide)) (fun _ hk => hk.2) (.int .i64 t196)) (fun _ hk => hk.2) (.int .i64 t197)) (fun _ hk => hk.2) (.bool t198)) (fun _ hk => hk.2) (.slice Ao6 t199.length co6)) (fun _ hk => hk.2) (.bool t202)) (fun _ hk => hk.2) (.slice Ao7 t203.length co7)) (fun _ hk => hk.1), by (with_reducible repeat (first | apply Kd.R_alloc | apply Kd.R_drewN | apply Kd.R_drew)); exact Kd.R_mono (Kd.R_far (p := ⟨gb195, 5, none⟩) (Kd.R_far (p := ⟨gb195, 4, none⟩) (Kd.R_far (p := ⟨gb195, 3, none⟩) (Kd.R_far (p := ⟨gb195, 2, none⟩) (Kd.R_far (p := ⟨gb195, 1, none⟩) (Kd.R_far (p := ⟨gb195, 0, none⟩) (Kd.R_types HO205.out BK195.out (by decide)) (fun _ hk => hk.2) (.int .i64 t196)) (fun _ hk => hk.2) (.int .i64 t197)) (fun _ hk => hk.2) (.bool t198)) (fun _ hk => hk.2) (.slice Ao6 t199.length co6)) (fun _ hk => hk.2) (.bool t202)) (fun _ hk => hk.2) (.slice Ao7 t203.length co7)) (fun _ hk => hk.1), by repeat (first | (with_reducible first | exact HB.out | apply below_alloc | apply pw_below_drewN | apply below_drew1 | refine below_set ?_ GE195.out) | exact HB.out)⟩

/-! ### impl_within: function 77 -/
def impl_within.f (a0 : Int) (a1 : Int) (a2 : Int) : Option (Bool) := if a0 ≥ a1 then (some (decide (a0 ≤ a2))) else (some false)
set_option maxHeartbeats 8000000 in
set_option maxRecDepth 100000 in
theorem impl_within.calls (a0 : Int) (a1 : Int) (a2 : Int) (r : Bool) (w : World) (h : impl_within.f a0 a1 a2 = some r) :
    Calls Try.prog 77 #[.int .i64 a0, .int .i64 a1, .int .i64 a2] w fun e w' => e = .returned (.bool r) ∧ Drawn0 w w' := by
  have H : (if a0 ≥ a1 then (some (decide (a0 ≤ a2))) else (some false)) = some r := h
  clear h
  by_cases c4 : a0 ≥ a1
  · rw [if_pos c4] at H
    have c4b0 : decide (a1 ≤ a0) = true := decide_eq_true c4
    clear c4
    obtain rfl := Option.some.inj H
    go_enter Try.func77, Try.ntmps77
    go_wp2
    go_ret
    exact ⟨by first | rfl | (simp; done) | (simp [*]; done), by repeat (first | exact Drawn0.refl _ | apply Drawn0.step)⟩
  · rw [if_neg c4] at H
    have c4b0 : decide (a1 ≤ a0) = false := decide_eq_false c4
    clear c4
    obtain rfl := Option.some.inj H
    go_enter Try.func77, Try.ntmps77
    go_wp2
    go_ret
    exact ⟨by first | rfl | (simp; done) | (simp [*]; done), by repeat (first | exact Drawn0.refl _ | apply Drawn0.step)⟩

/-! ### impl_baseValid: function 56 -/
def impl_baseValid.f (a0 : Int) (a1 : Int) : Option (Bool) := (impl_within.f a0 0 99999).bind fun t208 => (if t208 = true then ((impl_within.f a1 0 99999).bind fun t209 => (some t209)) else (some false))
set_option maxHeartbeats 8000000 in
set_option maxRecDepth 100000 in
theorem impl_baseValid.calls (a0 : Int) (a1 : Int) (r : Bool) (w : World) (h : impl_baseValid.f a0 a1 = some r) :
    Calls Try.prog 56 #[.int .i64 a0, .int .i64 a1] w fun e w' => e = .returned (.bool r) ∧ Drawn0 w w' := by
  have H : ((impl_within.f a0 0 99999).bind fun t208 => (if t208 = true then ((impl_within.f a1 0 99999).bind fun t209 => (some t209)) else (some false))) = some r := h
  clear h
  replace H := Option.bind_eq_some_iff.mp H
  obtain ⟨t208, A30, H⟩ := H
  replace H : (if t208 = true then ((impl_within.f a1 0 99999).bind fun t209 => (some t209)) else (some false)) = some r := H
  have A3 := Aside0.mk A30
  clear A30
  by_cases c4 : t208 = true
  · subst c4
    have H1 : ((impl_within.f a1 0 99999).bind fun t209 => (some t209)) = some r := by rw [if_pos rfl] at H; exact H
    clear H
    have H := H1
    clear H1
    replace H := Option.bind_eq_some_iff.mp H
    obtain ⟨t209, A50, H⟩ := H
    replace H : (some t209) = some r := H
    have A5 := Aside0.mk A50
    clear A50
    obtain rfl := Option.some.inj H
    go_enter Try.func56, Try.ntmps56
    go_wp2_with (first | ((with_reducible refine gate_callee (f := 77) rfl ?_); refine goesL_ (some 6) rfl rfl Try.func77 (by kernel_rfl) rfl #[.int .i64 a0, .int .i64 0, .int .i64 99999] rfl (by (try simp only [List.map_toArray, List.map_cons, List.map_nil]); first | done | rfl | (simp only [List.length_drop, List.length_take]; rfl)) ?_; (with_reducible refine (impl_within.calls a0 0 99999 true _ A3.out).mono ?_); rintro e w' ⟨rfl, ⟨nd, rfl⟩⟩; refine ⟨_, rfl, ?_⟩) | (go_at_call 77; (with_reducible refine (impl_within.calls a1 0 99999 t209 _ A5.out).mono ?_); rintro e w' ⟨rfl, ⟨nd, rfl⟩⟩))
    go_ret
    exact ⟨by first | rfl | (simp; done) | (simp [*]; done), by repeat (first | exact Drawn0.refl _ | apply Drawn0.step)⟩
  · replace c4 := Bool.eq_false_iff.mpr c4
    subst c4
    have H1 : (some false) = some r := by rw [if_neg (show ¬ (false = true) by decide)] at H; exact H
    clear H
    have H := H1
    clear H1
    obtain rfl := Option.some.inj H
    go_enter Try.func56, Try.ntmps56
    go_wp2_with (first | ((with_reducible refine gate_callee (f := 77) rfl ?_); refine goesL_ (some 6) rfl rfl Try.func77 (by kernel_rfl) rfl #[.int .i64 a0, .int .i64 0, .int .i64 99999] rfl (by (try simp only [List.map_toArray, List.map_cons, List.map_nil]); first | done | rfl | (simp only [List.length_drop, List.length_take]; rfl)) ?_; (with_reducible refine (impl_within.calls a0 0 99999 false _ A3.out).mono ?_); rintro e w' ⟨rfl, ⟨nd, rfl⟩⟩; refine ⟨_, rfl, ?_⟩))
    go_ret
    exact ⟨by first | rfl | (simp; done) | (simp [*]; done), by repeat (first | exact Drawn0.refl _ | apply Drawn0.step)⟩

/-! ### impl_isByte: function 86 -/
def impl_isByte.f (a0 : Int) : Option (Bool) := if a0 ≥ 0 then (some (decide (a0 ≤ 255))) else (some false)
set_option maxHeartbeats 8000000 in
set_option maxRecDepth 100000 in
theorem impl_isByte.calls (a0 : Int) (r : Bool) (w : World) (h : impl_isByte.f a0 = some r) :
    Calls Try.prog 86 #[.int .i64 a0] w fun e w' => e = .returned (.bool r) ∧ Drawn0 w w' := by
  have H : (if a0 ≥ 0 then (some (decide (a0 ≤ 255))) else (some false)) = some r := h
  clear h
  by_cases c2 : a0 ≥ 0
  · rw [if_pos c2] at H
    have c2b0 : decide (0 ≤ a0) = true := decide_eq_true c2
    clear c2
    obtain rfl := Option.some.inj H
    go_enter Try.func86, Try.ntmps86
    go_wp2
    go_ret
    exact ⟨by first | rfl | (simp; done) | (simp [*]; done), by repeat (first | exact Drawn0.refl _ | apply Drawn0.step)⟩
  · rw [if_neg c2] at H
    have c2b0 : decide (0 ≤ a0) = false := decide_eq_false c2
    clear c2
    obtain rfl := Option.some.inj H
    go_enter Try.func86, Try.ntmps86
    go_wp2
    go_ret
    exact ⟨by first | rfl | (simp; done) | (simp [*]; done), by repeat (first | exact Drawn0.refl _ | apply Drawn0.step)⟩

end Go.Proofs.Ytdgpkjjclngamaa.QFnRecordSize
