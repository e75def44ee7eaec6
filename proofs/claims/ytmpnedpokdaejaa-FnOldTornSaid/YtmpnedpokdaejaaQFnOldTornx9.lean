-- The law FnOldTorn's own walk, by hand (this session's program wip/lib/walks/mktorn.py prints the repeats).
import Derived.Test.YtmpnedpokdaejaaQFnOldTornx0
import Derived.Test.YtmpnedpokdaejaaQFnOldTornx1
import Derived.Test.YtmpnedpokdaejaaQFnOldTornx2
import Derived.Test.YtmpnedpokdaejaaQFnOldTornx3
import Derived.Test.YtmpnedpokdaejaaQFnOldTornx4
import Derived.Test.YtmpnedpokdaejaaQFnOldTornx5
import Derived.Test.YtmpnedpokdaejaaQFnOldTornx6
import Derived.Test.YtmpnedpokdaejaaQFnOldTornx7
import Derived.Test.YtmpnedpokdaejaaQFnOldTornx8
namespace Go.Proofs.Ytmpnedpokdaejaa.QFnOldTorn
open Go.RowKit Go.Proofs.YtmpnedpokdaejaaW.PrintWords Go.Proofs.YtmpnedpokdaejaaW.PrintLast Go.Proofs.YtmpnedpokdaejaaW.PrintMore
set_option linter.unusedVariables false
set_option linter.unusedSimpArgs false
def laws_FnOldTorn.f (k : Nat) (l0 : List Int) : Option Bool :=
  if (l0.length : Int) > 1048576 then some true else
  (spec_DrawOldFrom.f k l0).bind fun xs => (impl_OldFrom.f k xs).bind fun p => (spec_OldFrom.f k xs).bind fun q =>
    if p.2.2.2.2.2.2.2 = q.2.2.2.2.2.2.2 then (laws_sameOld.f k p.1 p.2.1 p.2.2.1 p.2.2.2.1 p.2.2.2.2.1 p.2.2.2.2.2.1 p.2.2.2.2.2.2.1 q.1 q.2.1 q.2.2.1 q.2.2.2.1 q.2.2.2.2.1 q.2.2.2.2.2.1 q.2.2.2.2.2.2.1).bind fun s =>
      if s = true then (if p.2.2.2.2.2.2.2 = true then (if 1 ≤ xs.length ∧ xs.length ≤ 100000000 then (impl_OldFrom.f k (xs.take (xs.length - 1))).bind fun a => (impl_OldFrom.f k (xs ++ [0])).bind fun b => some (!a.2.2.2.2.2.2.2 && !b.2.2.2.2.2.2.2) else none) else some true) else none
    else none
theorem laws_FnOldTorn.mono : ∀ a0 k, LeO (laws_FnOldTorn.f k a0) (laws_FnOldTorn.f (k + 1) a0) := by
  intro a0 k
  unfold laws_FnOldTorn.f
  repeat' first
      | (with_reducible exact spec_DrawOldFrom.mono _ _)
      | (with_reducible exact impl_OldFrom.mono _ _)
      | (with_reducible exact spec_OldFrom.mono _ _)
      | (with_reducible exact laws_sameOld.mono _ _ _ _ _ _ _ _ _ _ _ _ _ _ _)
      | (with_reducible exact LeO.refl _)
      | (with_reducible exact LeO.none _)
      | (with_reducible refine LeO.ite ?_ ?_)
      | (with_reducible refine LeO.bind ?_ (fun _ => ?_))
theorem torn_len {a b : Nat} (h : (a : Int) - 1 < b) (h2 : b ≤ a) : True := trivial
set_option maxHeartbeats 8000000 in
set_option maxRecDepth 100000 in
theorem laws_FnOldTorn.calls (k : Nat) (A0 : Option Addr) (c0 : Nat) (l0 : List Int) (r : Bool) (w : World) (hr0 : Kd.C (Kd.int .u8) w A0 l0.length l0) (hc0 : l0.length ≤ c0) (h : laws_FnOldTorn.f k l0 = some r) :
    Calls Try.prog 3 #[.slice A0 l0.length c0] w fun e w' => e = .returned (.bool r) ∧ Below w.heap.size w w' := by
  have hu26 := Try.underlying26
  have HR0 := Aside0.mk hr0
  have HC0 := Aside0.mk hc0
  have HB := Aside0.mk (Below.refl w.heap.size w)
  clear hr0 hc0
  unfold laws_FnOldTorn.f at h
  by_cases c2 : (l0.length : Int) > 1048576
  · rw [if_pos c2] at h
    have d2 : decide (1048576 < (l0.length : Int)) = true := decide_eq_true c2
    obtain rfl := Option.some.inj h
    go_enter Try.func3, Try.ntmps3
    go_wp2
    go_ret
    exact ⟨rfl, HB.out⟩
  rw [if_neg c2] at h
  have d2 : decide (1048576 < (l0.length : Int)) = false := decide_eq_false c2
  clear c2
  obtain ⟨xs, A3_, h⟩ := Option.bind_eq_some_iff.mp h
  obtain ⟨⟨p1, p2, p3, p4, p5, p6, p7, p8⟩, A4_, h⟩ := Option.bind_eq_some_iff.mp h
  obtain ⟨⟨q1, q2, q3, q4, q5, q6, q7, q8⟩, A5_, h⟩ := Option.bind_eq_some_iff.mp h
  dsimp only at h
  by_cases c8 : p8 = q8
  case neg => rw [if_neg c8] at h; cases h
  rw [if_pos c8] at h
  subst c8
  obtain ⟨s, A6_, h⟩ := Option.bind_eq_some_iff.mp h
  cases s with
  | false => simp at h
  | true =>
  rw [if_pos rfl] at h
  have A3 := Aside0.mk A3_
  have A4 := Aside0.mk A4_
  have A5 := Aside0.mk A5_
  have A6 := Aside0.mk A6_
  have H := Aside0.mk h
  clear A3_ A4_ A5_ A6_ h
  go_enter Try.func3, Try.ntmps3
  go_upto_region 4 with (go_at_call 15; refine (spec_DrawOldFrom.calls k _ _ l0 xs _ HR0.out HC0.out A3.out).mono ?_; rintro e w1 ⟨vx, rfl, ho, hb⟩; have HX := Aside0.mk (sR_flat_int (Kd.R_lower ho (below_size HB.out)) (fun _ _ _ => trivial)); have nHB := Aside0.mk (below_step HB.out hb); clear HB; have HB := nHB; clear nHB; clear hb; clear ho; obtain ⟨Ax, cx, ex_⟩ := Kd.R_slice HX.out; subst ex_)
  go_upto_region 5 with (first | (go_at_call 16; refine (impl_OldFrom.calls k _ _ xs p1 p2 p3 p4 p5 p6 p7 p8 _ (sR_own_reads HX.out).2 (sR_own_reads HX.out).1 A4.out).mono ?_; rintro e w2 ⟨v3, v4, rfl, ho, ho2, hb⟩; have HP3 := Aside0.mk (sR_flat_int (Kd.R_lower ho (below_size HB.out)) (fun _ _ _ => trivial)); have HP4 := Aside0.mk (sR_flat_int (Kd.R_lower ho2 (below_size HB.out)) (fun _ _ _ => trivial)); have nHX := Aside0.mk (Kd.R_below HX.out hb); have nHB := Aside0.mk (below_step HB.out hb); clear HX HB; have HX := nHX; have HB := nHB; clear nHX nHB; clear hb; clear ho ho2; obtain ⟨Ap3, cp3, e3_⟩ := Kd.R_slice HP3.out; subst e3_; obtain ⟨Ap4, cp4, e4_⟩ := Kd.R_slice HP4.out; subst e4_) | ((with_reducible refine gate_dst (N := 4) rfl ?_); refine box_event ?hg (N := 4) ?hd (cs := #[.int .i64 0, .bool false, .int .i64 0, .slice none 0 0, .slice none 0 0, .bool false, .bool false]) (t := 26) ?hr ?_; (case hd => rfl); (case hg => rfl); (case hr => first | (go_simp; done) | (go_simp; rfl)); intro g4 hg w3 hbox hb; have nHX := Aside0.mk (Kd.R_below HX.out hb); have nHP3 := Aside0.mk (Kd.R_below HP3.out hb); have nHP4 := Aside0.mk (Kd.R_below HP4.out hb); have nHB := Aside0.mk (below_step HB.out hb); have BKg4 := Aside0.mk hbox; have GEg4 := Aside0.mk ((by rw [hg]; exact below_size HB.out) : w.heap.size ≤ g4); clear HX HP3 HP4 HB; have HX := nHX; have HP3 := nHP3; have HP4 := nHP4; have HB := nHB; clear nHX nHP3 nHP4 nHB; clear hb hbox hg; have hza_0 := (blk_cell BKg4.out 0).trans (show _ = some (Value.int .i64 0) from rfl); have hza_1 := (blk_cell BKg4.out 1).trans (show _ = some (Value.bool false) from rfl); have hza_2 := (blk_cell BKg4.out 2).trans (show _ = some (Value.int .i64 0) from rfl); have hza_3 := (blk_cell BKg4.out 3).trans (show _ = some (Value.slice none 0 0) from rfl); have hza_4 := (blk_cell BKg4.out 4).trans (show _ = some (Value.slice none 0 0) from rfl); have hza_5 := (blk_cell BKg4.out 5).trans (show _ = some (Value.bool false) from rfl); have hza_6 := (blk_cell BKg4.out 6).trans (show _ = some (Value.bool false) from rfl); have hfa_0 := blk_frozen BKg4.out 0; have hfa_1 := blk_frozen BKg4.out 1; have hfa_2 := blk_frozen BKg4.out 2; have hfa_3 := blk_frozen BKg4.out 3; have hfa_4 := blk_frozen BKg4.out 4; have hfa_5 := blk_frozen BKg4.out 5; have hfa_6 := blk_frozen BKg4.out 6))
  have nBKg4 := Aside0.mk (sold_set7 BKg4.out (Value.int .i64 p1) (Value.bool p2) (Value.int .i64 p3) (Value.slice Ap3 p4.length cp3) (Value.slice Ap4 p5.length cp4) (Value.bool p6) (Value.bool p7))
  have nHX := Aside0.mk (sR_set7 BKg4.out HX.out (Value.int .i64 p1) (Value.bool p2) (Value.int .i64 p3) (Value.slice Ap3 p4.length cp3) (Value.slice Ap4 p5.length cp4) (Value.bool p6) (Value.bool p7))
  have nHP3 := Aside0.mk (sR_set7 BKg4.out HP3.out (Value.int .i64 p1) (Value.bool p2) (Value.int .i64 p3) (Value.slice Ap3 p4.length cp3) (Value.slice Ap4 p5.length cp4) (Value.bool p6) (Value.bool p7))
  have nHP4 := Aside0.mk (sR_set7 BKg4.out HP4.out (Value.int .i64 p1) (Value.bool p2) (Value.int .i64 p3) (Value.slice Ap3 p4.length cp3) (Value.slice Ap4 p5.length cp4) (Value.bool p6) (Value.bool p7))
  have nHB := Aside0.mk (show Below w.heap.size w ((((((((w3.setCell ⟨g4, 0, none⟩ (.int .i64 p1)).setCell ⟨g4, 1, none⟩ (.bool p2)).setCell ⟨g4, 2, none⟩ (.int .i64 p3)).setCell ⟨g4, 3, none⟩ (.slice Ap3 p4.length cp3)).setCell ⟨g4, 4, none⟩ (.slice Ap4 p5.length cp4)).setCell ⟨g4, 5, none⟩ (.bool p6)).setCell ⟨g4, 6, none⟩ (.bool p7))) from by with_reducible exact below_set (below_set (below_set (below_set (below_set (below_set (below_set (HB.out) GEg4.out) GEg4.out) GEg4.out) GEg4.out) GEg4.out) GEg4.out) GEg4.out)
  clear BKg4 HX HP3 HP4 HB
  generalize (((((((w3.setCell ⟨g4, 0, none⟩ (.int .i64 p1)).setCell ⟨g4, 1, none⟩ (.bool p2)).setCell ⟨g4, 2, none⟩ (.int .i64 p3)).setCell ⟨g4, 3, none⟩ (.slice Ap3 p4.length cp3)).setCell ⟨g4, 4, none⟩ (.slice Ap4 p5.length cp4)).setCell ⟨g4, 5, none⟩ (.bool p6)).setCell ⟨g4, 6, none⟩ (.bool p7)) = W4 at *
  clear hza_0 hfa_0 hza_1 hfa_1 hza_2 hfa_2 hza_3 hfa_3 hza_4 hfa_4 hza_5 hfa_5 hza_6 hfa_6
  have BKg4 := nBKg4
  have HX := nHX
  have HP3 := nHP3
  have HP4 := nHP4
  have HB := nHB
  clear nBKg4 nHX nHP3 nHP4 nHB
  go_upto_region 6 with (first | (go_at_call 17; refine (spec_OldFrom.calls k _ _ xs q1 q2 q3 q4 q5 q6 q7 p8 _ (sR_own_reads HX.out).2 (sR_own_reads HX.out).1 A5.out).mono ?_; rintro e w4 ⟨v3, v4, rfl, ho, ho2, hb⟩; have HQ3 := Aside0.mk (sR_flat_int (Kd.R_lower ho (below_size HB.out)) (fun _ _ _ => trivial)); have HQ4 := Aside0.mk (sR_flat_int (Kd.R_lower ho2 (below_size HB.out)) (fun _ _ _ => trivial)); have nHX := Aside0.mk (Kd.R_below HX.out hb); have nHP3 := Aside0.mk (Kd.R_below HP3.out hb); have nHP4 := Aside0.mk (Kd.R_below HP4.out hb); have nBKg4 := Aside0.mk (blk_below BKg4.out hb); have nHB := Aside0.mk (below_step HB.out hb); clear HX HP3 HP4 BKg4 HB; have HX := nHX; have HP3 := nHP3; have HP4 := nHP4; have BKg4 := nBKg4; have HB := nHB; clear nHX nHP3 nHP4 nBKg4 nHB; clear hb; clear ho ho2; obtain ⟨Aq3, cq3, e3_⟩ := Kd.R_slice HQ3.out; subst e3_; obtain ⟨Aq4, cq4, e4_⟩ := Kd.R_slice HQ4.out; subst e4_) | ((with_reducible refine gate_dst (N := 6) rfl ?_); refine box_event ?hg (N := 6) ?hd (cs := #[.int .i64 0, .bool false, .int .i64 0, .slice none 0 0, .slice none 0 0, .bool false, .bool false]) (t := 26) ?hr ?_; (case hd => rfl); (case hg => rfl); (case hr => first | (go_simp; done) | (go_simp; rfl)); intro g6 hg w5 hbox hb; have nHX := Aside0.mk (Kd.R_below HX.out hb); have nHP3 := Aside0.mk (Kd.R_below HP3.out hb); have nHP4 := Aside0.mk (Kd.R_below HP4.out hb); have nHQ3 := Aside0.mk (Kd.R_below HQ3.out hb); have nHQ4 := Aside0.mk (Kd.R_below HQ4.out hb); have nBKg4 := Aside0.mk (blk_below BKg4.out hb); have NEg4g6 := Aside0.mk ((by rw [hg]; exact Nat.ne_of_lt (blk_lt BKg4.out)) : g4 ≠ g6); have nHB := Aside0.mk (below_step HB.out hb); have BKg6 := Aside0.mk hbox; have GEg6 := Aside0.mk ((by rw [hg]; exact below_size HB.out) : w.heap.size ≤ g6); clear HX HP3 HP4 HQ3 HQ4 BKg4 HB; have HX := nHX; have HP3 := nHP3; have HP4 := nHP4; have HQ3 := nHQ3; have HQ4 := nHQ4; have BKg4 := nBKg4; have HB := nHB; clear nHX nHP3 nHP4 nHQ3 nHQ4 nBKg4 nHB; clear hb hbox hg; have hzb_0 := (blk_cell BKg6.out 0).trans (show _ = some (Value.int .i64 0) from rfl); have hzb_1 := (blk_cell BKg6.out 1).trans (show _ = some (Value.bool false) from rfl); have hzb_2 := (blk_cell BKg6.out 2).trans (show _ = some (Value.int .i64 0) from rfl); have hzb_3 := (blk_cell BKg6.out 3).trans (show _ = some (Value.slice none 0 0) from rfl); have hzb_4 := (blk_cell BKg6.out 4).trans (show _ = some (Value.slice none 0 0) from rfl); have hzb_5 := (blk_cell BKg6.out 5).trans (show _ = some (Value.bool false) from rfl); have hzb_6 := (blk_cell BKg6.out 6).trans (show _ = some (Value.bool false) from rfl); have hfb_0 := blk_frozen BKg6.out 0; have hfb_1 := blk_frozen BKg6.out 1; have hfb_2 := blk_frozen BKg6.out 2; have hfb_3 := blk_frozen BKg6.out 3; have hfb_4 := blk_frozen BKg6.out 4; have hfb_5 := blk_frozen BKg6.out 5; have hfb_6 := blk_frozen BKg6.out 6))
  have nBKg6 := Aside0.mk (sold_set7 BKg6.out (Value.int .i64 q1) (Value.bool q2) (Value.int .i64 q3) (Value.slice Aq3 q4.length cq3) (Value.slice Aq4 q5.length cq4) (Value.bool q6) (Value.bool q7))
  have nHX := Aside0.mk (sR_set7 BKg6.out HX.out (Value.int .i64 q1) (Value.bool q2) (Value.int .i64 q3) (Value.slice Aq3 q4.length cq3) (Value.slice Aq4 q5.length cq4) (Value.bool q6) (Value.bool q7))
  have nHP3 := Aside0.mk (sR_set7 BKg6.out HP3.out (Value.int .i64 q1) (Value.bool q2) (Value.int .i64 q3) (Value.slice Aq3 q4.length cq3) (Value.slice Aq4 q5.length cq4) (Value.bool q6) (Value.bool q7))
  have nHP4 := Aside0.mk (sR_set7 BKg6.out HP4.out (Value.int .i64 q1) (Value.bool q2) (Value.int .i64 q3) (Value.slice Aq3 q4.length cq3) (Value.slice Aq4 q5.length cq4) (Value.bool q6) (Value.bool q7))
  have nHQ3 := Aside0.mk (sR_set7 BKg6.out HQ3.out (Value.int .i64 q1) (Value.bool q2) (Value.int .i64 q3) (Value.slice Aq3 q4.length cq3) (Value.slice Aq4 q5.length cq4) (Value.bool q6) (Value.bool q7))
  have nHQ4 := Aside0.mk (sR_set7 BKg6.out HQ4.out (Value.int .i64 q1) (Value.bool q2) (Value.int .i64 q3) (Value.slice Aq3 q4.length cq3) (Value.slice Aq4 q5.length cq4) (Value.bool q6) (Value.bool q7))
  have nBKg4 := Aside0.mk (sfar7 BKg4.out NEg4g6.out (Value.int .i64 q1) (Value.bool q2) (Value.int .i64 q3) (Value.slice Aq3 q4.length cq3) (Value.slice Aq4 q5.length cq4) (Value.bool q6) (Value.bool q7))
  have nHB := Aside0.mk (show Below w.heap.size w ((((((((w5.setCell ⟨g6, 0, none⟩ (.int .i64 q1)).setCell ⟨g6, 1, none⟩ (.bool q2)).setCell ⟨g6, 2, none⟩ (.int .i64 q3)).setCell ⟨g6, 3, none⟩ (.slice Aq3 q4.length cq3)).setCell ⟨g6, 4, none⟩ (.slice Aq4 q5.length cq4)).setCell ⟨g6, 5, none⟩ (.bool q6)).setCell ⟨g6, 6, none⟩ (.bool q7))) from by with_reducible exact below_set (below_set (below_set (below_set (below_set (below_set (below_set (HB.out) GEg6.out) GEg6.out) GEg6.out) GEg6.out) GEg6.out) GEg6.out) GEg6.out)
  clear BKg6 HX HP3 HP4 HQ3 HQ4 BKg4 HB
  generalize (((((((w5.setCell ⟨g6, 0, none⟩ (.int .i64 q1)).setCell ⟨g6, 1, none⟩ (.bool q2)).setCell ⟨g6, 2, none⟩ (.int .i64 q3)).setCell ⟨g6, 3, none⟩ (.slice Aq3 q4.length cq3)).setCell ⟨g6, 4, none⟩ (.slice Aq4 q5.length cq4)).setCell ⟨g6, 5, none⟩ (.bool q6)).setCell ⟨g6, 6, none⟩ (.bool q7)) = W6 at *
  clear hzb_0 hfb_0 hzb_1 hfb_1 hzb_2 hfb_2 hzb_3 hfb_3 hzb_4 hfb_4 hzb_5 hfb_5 hzb_6 hfb_6
  have BKg6 := nBKg6
  have HX := nHX
  have HP3 := nHP3
  have HP4 := nHP4
  have HQ3 := nHQ3
  have HQ4 := nHQ4
  have BKg4 := nBKg4
  have HB := nHB
  clear nBKg6 nHX nHP3 nHP4 nHQ3 nHQ4 nBKg4 nHB
  have ne8 : (p8 != p8) = false := by simp
  have eq8 : (p8 == p8) = true := by simp
  have hzcp_0 := (blk_cell BKg4.out 0).trans (show _ = some (Value.int .i64 p1) from rfl)
  have hzcp_1 := (blk_cell BKg4.out 1).trans (show _ = some (Value.bool p2) from rfl)
  have hzcp_2 := (blk_cell BKg4.out 2).trans (show _ = some (Value.int .i64 p3) from rfl)
  have hzcp_3 := (blk_cell BKg4.out 3).trans (show _ = some (Value.slice Ap3 p4.length cp3) from rfl)
  have hzcp_4 := (blk_cell BKg4.out 4).trans (show _ = some (Value.slice Ap4 p5.length cp4) from rfl)
  have hzcp_5 := (blk_cell BKg4.out 5).trans (show _ = some (Value.bool p6) from rfl)
  have hzcp_6 := (blk_cell BKg4.out 6).trans (show _ = some (Value.bool p7) from rfl)
  have hfcp_0 := blk_frozen BKg4.out 0
  have hfcp_1 := blk_frozen BKg4.out 1
  have hfcp_2 := blk_frozen BKg4.out 2
  have hfcp_3 := blk_frozen BKg4.out 3
  have hfcp_4 := blk_frozen BKg4.out 4
  have hfcp_5 := blk_frozen BKg4.out 5
  have hfcp_6 := blk_frozen BKg4.out 6
  have hzcq_0 := (blk_cell BKg6.out 0).trans (show _ = some (Value.int .i64 q1) from rfl)
  have hzcq_1 := (blk_cell BKg6.out 1).trans (show _ = some (Value.bool q2) from rfl)
  have hzcq_2 := (blk_cell BKg6.out 2).trans (show _ = some (Value.int .i64 q3) from rfl)
  have hzcq_3 := (blk_cell BKg6.out 3).trans (show _ = some (Value.slice Aq3 q4.length cq3) from rfl)
  have hzcq_4 := (blk_cell BKg6.out 4).trans (show _ = some (Value.slice Aq4 q5.length cq4) from rfl)
  have hzcq_5 := (blk_cell BKg6.out 5).trans (show _ = some (Value.bool q6) from rfl)
  have hzcq_6 := (blk_cell BKg6.out 6).trans (show _ = some (Value.bool q7) from rfl)
  have hfcq_0 := blk_frozen BKg6.out 0
  have hfcq_1 := blk_frozen BKg6.out 1
  have hfcq_2 := blk_frozen BKg6.out 2
  have hfcq_3 := blk_frozen BKg6.out 3
  have hfcq_4 := blk_frozen BKg6.out 4
  have hfcq_5 := blk_frozen BKg6.out 5
  have hfcq_6 := blk_frozen BKg6.out 6
  cases p8 with
  | false =>
    have h := H.out
    simp only [Bool.false_eq_true, if_false, Option.some.injEq] at h
    subst h
    go_upto_region 7 with (go_at_call 18; refine (laws_sameOld.calls k p1 p2 p3 _ _ p4 _ _ p5 p6 p7 q1 q2 q3 _ _ q4 _ _ q5 q6 q7 true _ (sR_own_reads HP3.out).2 (sR_own_reads HP3.out).1 (sR_own_reads HP4.out).2 (sR_own_reads HP4.out).1 (sR_own_reads HQ3.out).2 (sR_own_reads HQ3.out).1 (sR_own_reads HQ4.out).2 (sR_own_reads HQ4.out).1 A6.out).mono ?_; rintro e w7 ⟨rfl, hb⟩; have nHX := Aside0.mk (Kd.R_below HX.out hb); have nHP3 := Aside0.mk (Kd.R_below HP3.out hb); have nHP4 := Aside0.mk (Kd.R_below HP4.out hb); have nHQ3 := Aside0.mk (Kd.R_below HQ3.out hb); have nHQ4 := Aside0.mk (Kd.R_below HQ4.out hb); have nBKg4 := Aside0.mk (blk_below BKg4.out hb); have nBKg6 := Aside0.mk (blk_below BKg6.out hb); have nHB := Aside0.mk (below_step HB.out hb); clear HX HP3 HP4 HQ3 HQ4 BKg4 BKg6 HB; have HX := nHX; have HP3 := nHP3; have HP4 := nHP4; have HQ3 := nHQ3; have HQ4 := nHQ4; have BKg4 := nBKg4; have BKg6 := nBKg6; have HB := nHB; clear nHX nHP3 nHP4 nHQ3 nHQ4 nBKg4 nBKg6 nHB hb)
    clear hzcp_0 hfcp_0 hzcq_0 hfcq_0 hzcp_1 hfcp_1 hzcq_1 hfcq_1 hzcp_2 hfcp_2 hzcq_2 hfcq_2 hzcp_3 hfcp_3 hzcq_3 hfcq_3 hzcp_4 hfcp_4 hzcq_4 hfcq_4 hzcp_5 hfcp_5 hzcq_5 hfcq_5 hzcp_6 hfcp_6 hzcq_6 hfcq_6
    have hzdp_0 := (blk_cell BKg4.out 0).trans (show _ = some (Value.int .i64 p1) from rfl)
    have hzdp_1 := (blk_cell BKg4.out 1).trans (show _ = some (Value.bool p2) from rfl)
    have hzdp_2 := (blk_cell BKg4.out 2).trans (show _ = some (Value.int .i64 p3) from rfl)
    have hzdp_3 := (blk_cell BKg4.out 3).trans (show _ = some (Value.slice Ap3 p4.length cp3) from rfl)
    have hzdp_4 := (blk_cell BKg4.out 4).trans (show _ = some (Value.slice Ap4 p5.length cp4) from rfl)
    have hzdp_5 := (blk_cell BKg4.out 5).trans (show _ = some (Value.bool p6) from rfl)
    have hzdp_6 := (blk_cell BKg4.out 6).trans (show _ = some (Value.bool p7) from rfl)
    have hfdp_0 := blk_frozen BKg4.out 0
    have hfdp_1 := blk_frozen BKg4.out 1
    have hfdp_2 := blk_frozen BKg4.out 2
    have hfdp_3 := blk_frozen BKg4.out 3
    have hfdp_4 := blk_frozen BKg4.out 4
    have hfdp_5 := blk_frozen BKg4.out 5
    have hfdp_6 := blk_frozen BKg4.out 6
    have hzdq_0 := (blk_cell BKg6.out 0).trans (show _ = some (Value.int .i64 q1) from rfl)
    have hzdq_1 := (blk_cell BKg6.out 1).trans (show _ = some (Value.bool q2) from rfl)
    have hzdq_2 := (blk_cell BKg6.out 2).trans (show _ = some (Value.int .i64 q3) from rfl)
    have hzdq_3 := (blk_cell BKg6.out 3).trans (show _ = some (Value.slice Aq3 q4.length cq3) from rfl)
    have hzdq_4 := (blk_cell BKg6.out 4).trans (show _ = some (Value.slice Aq4 q5.length cq4) from rfl)
    have hzdq_5 := (blk_cell BKg6.out 5).trans (show _ = some (Value.bool q6) from rfl)
    have hzdq_6 := (blk_cell BKg6.out 6).trans (show _ = some (Value.bool q7) from rfl)
    have hfdq_0 := blk_frozen BKg6.out 0
    have hfdq_1 := blk_frozen BKg6.out 1
    have hfdq_2 := blk_frozen BKg6.out 2
    have hfdq_3 := blk_frozen BKg6.out 3
    have hfdq_4 := blk_frozen BKg6.out 4
    have hfdq_5 := blk_frozen BKg6.out 5
    have hfdq_6 := blk_frozen BKg6.out 6
    go_wp2_with (go_at_call 18; refine (laws_sameOld.calls k p1 p2 p3 _ _ p4 _ _ p5 p6 p7 q1 q2 q3 _ _ q4 _ _ q5 q6 q7 true _ (sR_own_reads HP3.out).2 (sR_own_reads HP3.out).1 (sR_own_reads HP4.out).2 (sR_own_reads HP4.out).1 (sR_own_reads HQ3.out).2 (sR_own_reads HQ3.out).1 (sR_own_reads HQ4.out).2 (sR_own_reads HQ4.out).1 A6.out).mono ?_; rintro e w8 ⟨rfl, hb⟩; have nHX := Aside0.mk (Kd.R_below HX.out hb); have nHP3 := Aside0.mk (Kd.R_below HP3.out hb); have nHP4 := Aside0.mk (Kd.R_below HP4.out hb); have nHQ3 := Aside0.mk (Kd.R_below HQ3.out hb); have nHQ4 := Aside0.mk (Kd.R_below HQ4.out hb); have nBKg4 := Aside0.mk (blk_below BKg4.out hb); have nBKg6 := Aside0.mk (blk_below BKg6.out hb); have nHB := Aside0.mk (below_step HB.out hb); clear HX HP3 HP4 HQ3 HQ4 BKg4 BKg6 HB; have HX := nHX; have HP3 := nHP3; have HP4 := nHP4; have HQ3 := nHQ3; have HQ4 := nHQ4; have BKg4 := nBKg4; have BKg6 := nBKg6; have HB := nHB; clear nHX nHP3 nHP4 nHQ3 nHQ4 nBKg4 nBKg6 nHB hb)
    go_ret
    exact ⟨rfl, HB.out⟩
  | true =>
    have h := H.out
    rw [if_pos rfl] at h
    by_cases cl : 1 ≤ xs.length ∧ xs.length ≤ 100000000
    case neg => rw [if_neg cl] at h; cases h
    rw [if_pos cl] at h
    obtain ⟨⟨a1, a2, a3, a4, a5, a6, a7, a8⟩, A7_, h⟩ := Option.bind_eq_some_iff.mp h
    obtain ⟨⟨b1, b2, b3, b4, b5, b6, b7, b8⟩, A8_, h⟩ := Option.bind_eq_some_iff.mp h
    obtain rfl := Option.some.inj h
    have A7 := Aside0.mk A7_
    have A8 := Aside0.mk A8_
    have CL := Aside0.mk cl
    clear A7_ A8_ h H
    go_upto_region 8 with (go_at_call 18; refine (laws_sameOld.calls k p1 p2 p3 _ _ p4 _ _ p5 p6 p7 q1 q2 q3 _ _ q4 _ _ q5 q6 q7 true _ (sR_own_reads HP3.out).2 (sR_own_reads HP3.out).1 (sR_own_reads HP4.out).2 (sR_own_reads HP4.out).1 (sR_own_reads HQ3.out).2 (sR_own_reads HQ3.out).1 (sR_own_reads HQ4.out).2 (sR_own_reads HQ4.out).1 A6.out).mono ?_; rintro e w7 ⟨rfl, hb⟩; have nHX := Aside0.mk (Kd.R_below HX.out hb); have nHP3 := Aside0.mk (Kd.R_below HP3.out hb); have nHP4 := Aside0.mk (Kd.R_below HP4.out hb); have nHQ3 := Aside0.mk (Kd.R_below HQ3.out hb); have nHQ4 := Aside0.mk (Kd.R_below HQ4.out hb); have nBKg4 := Aside0.mk (blk_below BKg4.out hb); have nBKg6 := Aside0.mk (blk_below BKg6.out hb); have nHB := Aside0.mk (below_step HB.out hb); clear HX HP3 HP4 HQ3 HQ4 BKg4 BKg6 HB; have HX := nHX; have HP3 := nHP3; have HP4 := nHP4; have HQ3 := nHQ3; have HQ4 := nHQ4; have BKg4 := nBKg4; have BKg6 := nBKg6; have HB := nHB; clear nHX nHP3 nHP4 nHQ3 nHQ4 nBKg4 nBKg6 nHB hb)
    clear hzcp_0 hfcp_0 hzcq_0 hfcq_0 hzcp_1 hfcp_1 hzcq_1 hfcq_1 hzcp_2 hfcp_2 hzcq_2 hfcq_2 hzcp_3 hfcp_3 hzcq_3 hfcq_3 hzcp_4 hfcp_4 hzcq_4 hfcq_4 hzcp_5 hfcp_5 hzcq_5 hfcq_5 hzcp_6 hfcp_6 hzcq_6 hfcq_6
    clear HP3 HP4 HQ3 HQ4 BKg4 BKg6
    have cxx := (sR_own_reads HX.out).1
    obtain ⟨rs, hrs, hcut, hA1, hC1⟩ := cut_take Ax cx xs ((xs.length : Int) - 1) (by omega) (by omega) cxx
    have wl : wrap64 ((xs.length : Int) - 1) = (xs.length : Int) - 1 := by unfold wrap64; omega
    have e1 : ((xs.length : Int) - 1).toNat = xs.length - 1 := by omega
    rw [e1] at hrs
    have A7' := A7.out
    rw [← hrs] at A7'
    clear A7
    have A7 := Aside0.mk A7'
    clear A7'
    have HA1 := Aside0.mk (And.intro hA1 hC1)
    have HRS := Aside0.mk hrs
    clear hrs
    clear hA1 hC1 e1 cl cxx
    go_upto_region 9 with (first | (go_at_call 16; refine (impl_OldFrom.calls k _ _ rs a1 a2 a3 a4 a5 a6 a7 a8 _ (HA1.out.1 _ (sR_own_reads HX.out).2) HA1.out.2 A7.out).mono ?_; rintro e w9 ⟨va, vb, rfl, ho, ho2, hb⟩; have nHX := Aside0.mk (Kd.R_below HX.out hb); have nHB := Aside0.mk (below_step HB.out hb); clear HX HB; have HX := nHX; have HB := nHB; clear nHX nHB; clear hb; obtain ⟨Aa3, ca3, ea_⟩ := Kd.R_slice ho; subst ea_; obtain ⟨Aa4, ca4, eb_⟩ := Kd.R_slice ho2; subst eb_; clear ho ho2) | ((with_reducible refine gate_dst (N := 8) rfl ?_); refine box_event ?hg (N := 8) ?hd (cs := #[.int .i64 0, .bool false, .int .i64 0, .slice none 0 0, .slice none 0 0, .bool false, .bool false]) (t := 26) ?hr ?_; (case hd => rfl); (case hg => rfl); (case hr => first | (go_simp; done) | (go_simp; rfl)); intro g8 hg w10 hbox hb; have nHX := Aside0.mk (Kd.R_below HX.out hb); have nHB := Aside0.mk (below_step HB.out hb); have BKg8 := Aside0.mk hbox; have GEg8 := Aside0.mk ((by rw [hg]; exact below_size HB.out) : w.heap.size ≤ g8); clear HX HB; have HX := nHX; have HB := nHB; clear nHX nHB; clear hb hbox hg; have hze_0 := (blk_cell BKg8.out 0).trans (show _ = some (Value.int .i64 0) from rfl); have hze_1 := (blk_cell BKg8.out 1).trans (show _ = some (Value.bool false) from rfl); have hze_2 := (blk_cell BKg8.out 2).trans (show _ = some (Value.int .i64 0) from rfl); have hze_3 := (blk_cell BKg8.out 3).trans (show _ = some (Value.slice none 0 0) from rfl); have hze_4 := (blk_cell BKg8.out 4).trans (show _ = some (Value.slice none 0 0) from rfl); have hze_5 := (blk_cell BKg8.out 5).trans (show _ = some (Value.bool false) from rfl); have hze_6 := (blk_cell BKg8.out 6).trans (show _ = some (Value.bool false) from rfl); have hfe_0 := blk_frozen BKg8.out 0; have hfe_1 := blk_frozen BKg8.out 1; have hfe_2 := blk_frozen BKg8.out 2; have hfe_3 := blk_frozen BKg8.out 3; have hfe_4 := blk_frozen BKg8.out 4; have hfe_5 := blk_frozen BKg8.out 5; have hfe_6 := blk_frozen BKg8.out 6))
    have nBKg8 := Aside0.mk (sold_set7 BKg8.out (Value.int .i64 a1) (Value.bool a2) (Value.int .i64 a3) (Value.slice Aa3 a4.length ca3) (Value.slice Aa4 a5.length ca4) (Value.bool a6) (Value.bool a7))
    have nHX := Aside0.mk (sR_set7 BKg8.out HX.out (Value.int .i64 a1) (Value.bool a2) (Value.int .i64 a3) (Value.slice Aa3 a4.length ca3) (Value.slice Aa4 a5.length ca4) (Value.bool a6) (Value.bool a7))
    have nHB := Aside0.mk (show Below w.heap.size w ((((((((w10.setCell ⟨g8, 0, none⟩ (.int .i64 a1)).setCell ⟨g8, 1, none⟩ (.bool a2)).setCell ⟨g8, 2, none⟩ (.int .i64 a3)).setCell ⟨g8, 3, none⟩ (.slice Aa3 a4.length ca3)).setCell ⟨g8, 4, none⟩ (.slice Aa4 a5.length ca4)).setCell ⟨g8, 5, none⟩ (.bool a6)).setCell ⟨g8, 6, none⟩ (.bool a7))) from by with_reducible exact below_set (below_set (below_set (below_set (below_set (below_set (below_set (HB.out) GEg8.out) GEg8.out) GEg8.out) GEg8.out) GEg8.out) GEg8.out) GEg8.out)
    clear BKg8 HX HB
    generalize (((((((w10.setCell ⟨g8, 0, none⟩ (.int .i64 a1)).setCell ⟨g8, 1, none⟩ (.bool a2)).setCell ⟨g8, 2, none⟩ (.int .i64 a3)).setCell ⟨g8, 3, none⟩ (.slice Aa3 a4.length ca3)).setCell ⟨g8, 4, none⟩ (.slice Aa4 a5.length ca4)).setCell ⟨g8, 5, none⟩ (.bool a6)).setCell ⟨g8, 6, none⟩ (.bool a7)) = W10 at *
    clear hze_0 hfe_0 hze_1 hfe_1 hze_2 hfe_2 hze_3 hfe_3 hze_4 hfe_4 hze_5 hfe_5 hze_6 hfe_6
    have BKg8 := nBKg8
    have HX := nHX
    have HB := nHB
    clear nBKg8 nHX nHB
    go_upto_region 10 with (first | ((with_reducible refine gate_dst (N := 58) rfl ?_); refine Kd.R_lit (Kd.int .i64) _ 3 ?hg (N := 58) ?hd (xs := ([] : List Int)) (inner := []) (ok := fun _ => True) (okp := fun _ => True) ?hr ?hp (fun _ hk => hk) trivial (Below.refl _ _) (Nat.le_refl _) (by simp) ?_; (case hd => rfl); (case hg => rfl); (case hr => first | (go_simp; done) | (go_simp; rfl)); (case hp => exact (Reps.none _ _)); intro vl8 w11 ho9 hb hg_ hnew_; clear hg_ hnew_; have Hl8 := Aside0.mk (sR_flat_int (Kd.R_lower ho9 (below_size HB.out)) (fun _ _ _ => trivial)); have nHX := Aside0.mk (Kd.R_below HX.out hb); have nHB := Aside0.mk (below_step HB.out hb); clear HB HX; have HX := nHX; have HB := nHB; clear nHB nHX; clear hb ho9) | ((with_reducible refine gate_builtin (b := .append) (xs := #[.tmp 58, .tmp 59]) rfl ?_); at_builtin; refine Kd.R_append_rows (Kd.int .i64) (w0 := w) w.heap.size rfl (.tmp 58) (.tmp 59) 23 3 (.int .i64 0) 8 rfl Try.underlying23 info3 rfl (by decide) (by omega) vl8 [] xs _ _ _ (fun _ => True) (fun _ => False) rfl rfl ?aO ?aR (fun _ _ h => h) (fun _ h => h.elim) ?aF ?aB ?aS ?aL ?_; (case aR => exact (sR_own_reads HX.out).2); (case aB => exact HB.out); (case aF => exact (fun _ _ => trivial)); (case aO => exact Hl8.out); (case aS => exact below_size HB.out); (case aL => have := CL.out; simp only [List.length_nil]; omega); intro va0 w12 ho hb hg hat; have Ha0 := Aside0.mk ho; have nHB := Aside0.mk hb; clear HB; have HB := nHB; clear nHB ho hb hg hat) | ((with_reducible refine gate_dst (N := 61) rfl ?_); refine Kd.R_lit (Kd.int .i64) _ 3 ?hg (N := 61) ?hd (xs := ([0] : List Int)) (inner := [.int .i64 0]) (ok := fun _ => True) (okp := fun _ => True) ?hr ?hp (fun _ hk => hk) trivial (Below.refl _ _) (Nat.le_refl _) (by simp) ?_; (case hd => rfl); (case hg => rfl); (case hr => first | (go_simp; done) | (go_simp; rfl)); (case hp => exact (Reps.one (show Kd.M (Kd.int .i64) _ _ _ 0 [.int .i64 0] from rfl) (Reps.none _ _))); intro vl1 w13 ho9 hb hg_ hnew_; clear hg_ hnew_; have Hl1 := Aside0.mk (sR_flat_int (Kd.R_lower ho9 (below_size HB.out)) (fun _ _ _ => trivial)); have nHa0 := Aside0.mk (Kd.R_below Ha0.out hb); have nHB := Aside0.mk (below_step HB.out hb); clear HB Ha0; have Ha0 := nHa0; have HB := nHB; clear nHB nHa0; clear hb ho9; obtain ⟨Al, cl1, el_⟩ := Kd.R_slice Hl1.out; subst el_) | ((with_reducible refine gate_builtin (b := .append) (xs := #[.tmp 60, .tmp 61]) rfl ?_); at_builtin; refine Kd.R_append_rows (Kd.int .i64) (w0 := w) w.heap.size rfl (.tmp 60) (.tmp 61) 23 3 (.int .i64 0) 8 rfl Try.underlying23 info3 rfl (by decide) (by omega) va0 ([] ++ xs) [0] _ _ _ (fun _ => True) (fun _ => False) rfl rfl ?aO ?aR (fun _ _ h => h) (fun _ h => h.elim) ?aF ?aB ?aS ?aL ?_; (case aR => exact (sR_own_reads Hl1.out).2); (case aB => exact HB.out); (case aF => exact (fun _ _ => trivial)); (case aO => exact Ha0.out); (case aS => exact below_size HB.out); (case aL => have := CL.out; simp only [List.nil_append, List.length_cons, List.length_nil]; omega); intro va2 w14 ho hb hg hat; obtain ⟨ys, hys⟩ : ∃ ys, ys = [] ++ xs ++ [0] := ⟨_, rfl⟩; rw [← hys] at ho; have Ha2 := Aside0.mk ho; rw [List.nil_append] at hys; have A8_ := A8.out; rw [← hys] at A8_; have A9 := Aside0.mk A8_; clear A8_ hys; have nHB := Aside0.mk hb; clear HB; have HB := nHB; clear nHB ho hb hg hat; obtain ⟨Ab, cb, eb_⟩ := Kd.R_slice Ha2.out; subst eb_) | (go_at_call 16; refine (impl_OldFrom.calls k _ _ ys b1 b2 b3 b4 b5 b6 b7 b8 _ (sR_own_reads Ha2.out).2 (sR_own_reads Ha2.out).1 A9.out).mono ?_; rintro e w15 ⟨va, vb, rfl, ho, ho2, hb⟩; have nHB := Aside0.mk (below_step HB.out hb); clear HB; have HB := nHB; clear nHB hb; obtain ⟨Ab3, cb3, ea_⟩ := Kd.R_slice ho; subst ea_; obtain ⟨Ab4, cb4, ec_⟩ := Kd.R_slice ho2; subst ec_; clear ho ho2) | ((with_reducible refine gate_dst (N := 10) rfl ?_); refine box_event ?hg (N := 10) ?hd (cs := #[.int .i64 0, .bool false, .int .i64 0, .slice none 0 0, .slice none 0 0, .bool false, .bool false]) (t := 26) ?hr ?_; (case hd => rfl); (case hg => rfl); (case hr => first | (go_simp; done) | (go_simp; rfl)); intro g10 hg w16 hbox hb; have nHB := Aside0.mk (below_step HB.out hb); have BKg10 := Aside0.mk hbox; have GEg10 := Aside0.mk ((by rw [hg]; exact below_size HB.out) : w.heap.size ≤ g10); clear HB; have HB := nHB; clear nHB; clear hb hbox hg; have hzf_0 := (blk_cell BKg10.out 0).trans (show _ = some (Value.int .i64 0) from rfl); have hzf_1 := (blk_cell BKg10.out 1).trans (show _ = some (Value.bool false) from rfl); have hzf_2 := (blk_cell BKg10.out 2).trans (show _ = some (Value.int .i64 0) from rfl); have hzf_3 := (blk_cell BKg10.out 3).trans (show _ = some (Value.slice none 0 0) from rfl); have hzf_4 := (blk_cell BKg10.out 4).trans (show _ = some (Value.slice none 0 0) from rfl); have hzf_5 := (blk_cell BKg10.out 5).trans (show _ = some (Value.bool false) from rfl); have hzf_6 := (blk_cell BKg10.out 6).trans (show _ = some (Value.bool false) from rfl); have hff_0 := blk_frozen BKg10.out 0; have hff_1 := blk_frozen BKg10.out 1; have hff_2 := blk_frozen BKg10.out 2; have hff_3 := blk_frozen BKg10.out 3; have hff_4 := blk_frozen BKg10.out 4; have hff_5 := blk_frozen BKg10.out 5; have hff_6 := blk_frozen BKg10.out 6))
    have nBKg10 := Aside0.mk (sold_set7 BKg10.out (Value.int .i64 b1) (Value.bool b2) (Value.int .i64 b3) (Value.slice Ab3 b4.length cb3) (Value.slice Ab4 b5.length cb4) (Value.bool b6) (Value.bool b7))
    have nHB := Aside0.mk (show Below w.heap.size w ((((((((w16.setCell ⟨g10, 0, none⟩ (.int .i64 b1)).setCell ⟨g10, 1, none⟩ (.bool b2)).setCell ⟨g10, 2, none⟩ (.int .i64 b3)).setCell ⟨g10, 3, none⟩ (.slice Ab3 b4.length cb3)).setCell ⟨g10, 4, none⟩ (.slice Ab4 b5.length cb4)).setCell ⟨g10, 5, none⟩ (.bool b6)).setCell ⟨g10, 6, none⟩ (.bool b7))) from by with_reducible exact below_set (below_set (below_set (below_set (below_set (below_set (below_set (HB.out) GEg10.out) GEg10.out) GEg10.out) GEg10.out) GEg10.out) GEg10.out) GEg10.out)
    clear BKg10 HB
    generalize (((((((w16.setCell ⟨g10, 0, none⟩ (.int .i64 b1)).setCell ⟨g10, 1, none⟩ (.bool b2)).setCell ⟨g10, 2, none⟩ (.int .i64 b3)).setCell ⟨g10, 3, none⟩ (.slice Ab3 b4.length cb3)).setCell ⟨g10, 4, none⟩ (.slice Ab4 b5.length cb4)).setCell ⟨g10, 5, none⟩ (.bool b6)).setCell ⟨g10, 6, none⟩ (.bool b7)) = W16 at *
    clear hzf_0 hff_0 hzf_1 hff_1 hzf_2 hff_2 hzf_3 hff_3 hzf_4 hff_4 hzf_5 hff_5 hzf_6 hff_6
    have BKg10 := nBKg10
    have HB := nHB
    clear nBKg10 nHB
    go_wp2
    all_goals go_ret
    all_goals exact ⟨by first | rfl | simp, HB.out⟩

/-- THE ONE PURE STATEMENT of laws_FnOldTorn. -/
def laws_FnOldTorn.Pure : Prop := ∀ (l0 : List Int), l0.length ≤ maxLen → l0.length * 1 ≤ 140737488351232 → (∀ x ∈ l0, (Lit.int .u8 x).wf = true) → ∃ k, laws_FnOldTorn.f k l0 = some true
theorem laws_FnOldTorn.walk (P : laws_FnOldTorn.Pure) (a0 : Option Addr) (len0 cap0 : Nat) (z0 : List Int) (w : World) (w0 : (a0 = none ∧ len0 = 0 ∧ cap0 = 0 ∧ z0 = []) ∨ ∃ x, a0 = some x ∧ len0 ≤ cap0 ∧ cap0 ≤ maxLen ∧ z0.length = cap0 ∧ (∀ i, i < z0.length → w.cell? (x.add i) = some (.int .u8 (z0.getD i 0))) ∧ ∀ n ∈ z0, (Lit.int .u8 n).wf = true) (y0 : len0 * 1 ≤ 140737488351232) :
    Calls Try.prog 3 #[.slice a0 len0 cap0] w fun e w' => e = .returned (.bool true) ∧ Below w.heap.size w w' := by
  obtain ⟨l0, rfl, hr0, hm0, hw0, hc0⟩ := ReadsInt.ofRowC w0
  obtain ⟨k, h⟩ := P l0 hm0 y0 hw0
  refine (laws_FnOldTorn.calls k _ _ l0 true w (Kd.C_of_reads (d := (0 : Int)) (h1 := fun _ => rfl) hr0) hc0 h).mono ?_
  rintro e w' ⟨rfl, hd⟩
  exact ⟨rfl, hd⟩
end Go.Proofs.Ytmpnedpokdaejaa.QFnOldTorn
