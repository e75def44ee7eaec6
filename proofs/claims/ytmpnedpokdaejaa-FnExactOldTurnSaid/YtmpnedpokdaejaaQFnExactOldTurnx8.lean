-- Written by this session's program wip/ownprint.py.
import Derived.Test.YtmpnedpokdaejaaQFnExactOldTurnx0
import Derived.Test.YtmpnedpokdaejaaQFnExactOldTurnx5
import Derived.Test.YtmpnedpokdaejaaQFnExactOldTurnx6
import Derived.Test.YtmpnedpokdaejaaQFnExactOldTurnx7
namespace Go.Proofs.Ytmpnedpokdaejaa.QFnExactOldTurn
open Go.RowKit Go.Proofs.YtmpnedpokdaejaaW.PrintWords Go.Proofs.YtmpnedpokdaejaaW.PrintLast Go.Proofs.YtmpnedpokdaejaaW.PrintMore
attribute [local go_sem] max2_int min2_int max_two min_two max_three min_three max_four min_four   -- for this text's walks alone
set_option linter.unusedVariables false
set_option linter.unusedSimpArgs false

/-! ### impl_OldTurn: function 25 -/
def impl_OldTurn.l0 : Nat→List (S26)→Int→Int→Bool→Bool→Int→Int→Int→List (S57)→Option (Bool × Bool × Int × Int × Int × (List (S57)) × Bool)
 | 0,_,_,_,_,_,_,_,_,_=>none
 | k + 1,x15,x16,x17,x229000,x229001,x229002,x229003,x229004,x229005=>if x17 < x16 then (if 0 ≤ x17 then (if x17 < (x15.length : Int) then ((impl_OldValid.f k ((rd_T26 x15 x17).f0) ((rd_T26 x15 x17).f1) ((rd_T26 x15 x17).f2) ((rd_T26 x15 x17).f3) ((rd_T26 x15 x17).f4) ((rd_T26 x15 x17).f5) ((rd_T26 x15 x17).f6)).bind fun t232=>(if t232=true then ((impl_Old_kept.f ((rd_T26 x15 x17).f0) ((rd_T26 x15 x17).f1) ((rd_T26 x15 x17).f2) ((rd_T26 x15 x17).f3) ((rd_T26 x15 x17).f4) ((rd_T26 x15 x17).f5) ((rd_T26 x15 x17).f6)).bind fun bt233=>(if x229005.length < 1759218604441 then (impl_OldTurn.l0 k x15 x16 (wrap64 (x17 + 1)) x229000 x229001 x229002 x229003 x229004 (x229005 ++ [(⟨bt233.1,bt233.2.1,bt233.2.2.1,bt233.2.2.2.1,bt233.2.2.2.2.1,bt233.2.2.2.2.2⟩ : S57)])) else (none))) else (some (false,false,0,0,0,([] : List (S57)),false)))) else (none)) else (none)) else ((impl_BatchValid.f k x229000 x229001 x229002 x229003 x229004 x229005).bind fun t229=>(if t229=true then (some (x229000,x229001,x229002,x229003,x229004,x229005,true)) else (some (false,false,0,0,0,([] : List (S57)),false))))
def impl_OldTurn.f (k : Nat) (l0 : List (S26)) (a1 : Bool) : Option (Bool × Bool × Int × Int × Int × (List (S57)) × Bool):=if (l0.length : Int) > 6 then (some (false,false,0,0,0,([] : List (S57)),false)) else (impl_OldTurn.l0 k l0 (l0.length : Int) 0 a1 false 255 0 0 ([] : List (S57)))
theorem impl_OldTurn.mono_l : ∀ k,(∀ y0 y1 y2 y3 y4 y5 y6 y7 y8,LeO (impl_OldTurn.l0 k y0 y1 y2 y3 y4 y5 y6 y7 y8) (impl_OldTurn.l0 (k + 1) y0 y1 y2 y3 y4 y5 y6 y7 y8))
 | 0=>fun _ _ _ _ _ _ _ _ _ r h=>by simp [impl_OldTurn.l0] at h
 | k + 1=>by
  have ih0:=impl_OldTurn.mono_l k
  ·intro y0 y1 y2 y3 y4 y5 y6 y7 y8
   unfold impl_OldTurn.l0
   repeat' first
   | (with_reducible exact ih0 _ _ _ _ _ _ _ _ _)
   | (with_reducible exact impl_BatchValid.mono _ _ _ _ _ _ _)
   | (with_reducible exact impl_OldValid.mono _ _ _ _ _ _ _ _)
   | (with_reducible exact LeO.refl _)
   | (with_reducible exact LeO.none _)
   | (with_reducible refine LeO.ite ?_ ?_)
   | (with_reducible refine LeO.bind ?_ (fun _=>?_))
   | exact ih0 _ _ _ _ _ _ _ _ _
   | exact impl_BatchValid.mono _ _ _ _ _ _ _
   | exact impl_OldValid.mono _ _ _ _ _ _ _ _
   | exact LeO.none _
   | refine LeO.ite ?_ ?_
   | refine LeO.bind ?_ (fun _=>?_)
theorem impl_OldTurn.mono : ∀ a0 a1 k,LeO (impl_OldTurn.f k a0 a1) (impl_OldTurn.f (k + 1) a0 a1):=by
 intro a0 a1 k
 have ih0:=impl_OldTurn.mono_l k
 unfold impl_OldTurn.f
 repeat' first
   | (with_reducible exact ih0 _ _ _ _ _ _ _ _ _)
   | (with_reducible exact impl_BatchValid.mono _ _ _ _ _ _ _)
   | (with_reducible exact impl_OldValid.mono _ _ _ _ _ _ _ _)
   | (with_reducible exact LeO.refl _)
   | (with_reducible exact LeO.none _)
   | (with_reducible refine LeO.ite ?_ ?_)
   | (with_reducible refine LeO.bind ?_ (fun _=>?_))
   | exact ih0 _ _ _ _ _ _ _ _ _
   | exact impl_BatchValid.mono _ _ _ _ _ _ _
   | exact impl_OldValid.mono _ _ _ _ _ _ _ _
   | exact LeO.none _
   | refine LeO.ite ?_ ?_
   | refine LeO.bind ?_ (fun _=>?_)
def impl_OldTurn.T9 : Bool × List (List Nat × List Nat):=(true,[([],[]),([0],[0]),([],[]),([2],[2]),([3],[3]),([1,4,3],[1,4]),([0,1,2,3,4,5],[]),([6,5,5,0,1,2,3,4,5],[5,6])])
def impl_OldTurn.B9 : List Nat:=[0,1,0,4,12,31,63,127]
theorem impl_OldTurn.tab9 : rtab .any (opsOf Try.f25 9)=impl_OldTurn.T9:=by kernel_rfl
theorem impl_OldTurn.bits9 : waitsOk impl_OldTurn.T9.2 impl_OldTurn.B9=true:=by kernel_rfl
set_option maxHeartbeats 8000000 in
set_option maxRecDepth 100000 in
theorem impl_OldTurn.calls (k : Nat) (A0 : Option Addr) (c0 : Nat) (l0 : List (S26)) (a1 : Bool) (r1 : Bool) (r2 : Bool) (r3 : Int) (r4 : Int) (r5 : Int) (r6 : List (S57)) (r7 : Bool) (w : World) (hr0 : Kd.C k26 w A0 l0.length l0) (hc0 : l0.length ≤ c0) (h : impl_OldTurn.f k l0 a1=some (r1,r2,r3,r4,r5,r6,r7)) :
  Calls Try.prog 25 #[.slice A0 l0.length c0,.bool a1] w fun e w'=>∃ v5_ : Value,e = .returned (.tuple #[.agg #[.bool r1,.bool r2,.int .i64 r3,.int .i64 r4,.int .i64 r5,v5_],.bool r7])∧Kd.S k57s 57 w' w.heap.size (fun _=>True) v5_ r6∧Below w.heap.size w w':=by
 have hu39:=Try.underlying39
 have hu26:=Try.underlying26
 have HR0:=Aside0.mk hr0
 have HC0:=Aside0.mk hc0
 clear hr0 hc0
 have HB:=Aside0.mk (Below.refl w.heap.size w)
 have H : (if (l0.length : Int) > 6 then (some (false,false,0,0,0,([] : List (S57)),false)) else (impl_OldTurn.l0 k l0 (l0.length : Int) 0 a1 false 255 0 0 ([] : List (S57))))=some (r1,r2,r3,r4,r5,r6,r7):=h
 clear h
 by_cases c3 : (l0.length : Int) > 6
 ·rw [if_pos c3] at H
  have c3b0 : decide (6 < (l0.length : Int))=true:=decide_eq_true c3
  have c3b1 : decide (6 < l0.length)=true:=decide_eq_true (by omega)
  clear c3
  simp only [Option.some.injEq,Prod.mk.injEq] at H
  obtain ⟨rfl,rfl,rfl,rfl,rfl,rfl,rfl⟩:=H
  go_enter Try.func25,Try.ntmps25
  go_wp2_with (first|((with_reducible refine gate_dst (N:=4) rfl ?_);refine box_event ?hg (N:=4) ?hd (cs:=#[.bool false,.bool false,.int .i64 0,.int .i64 0,.int .i64 0,.slice none 0 0]) (t:=39) ?hr ?_;(case hd=>rfl);(case hg=>rfl);(case hr=>first|(go_simp;done)|(go_simp;rfl));intro gb227 hg w4 hbox hb;have n0_:=Aside0.mk (below_step (by repeat (first|(with_reducible first|exact HB.out|apply below_alloc|apply pw_below_drewN|apply below_drew1)|exact HB.out)) hb);have n1_:=Aside0.mk (hbox);have n2_:=Aside0.mk ((by rw [hg];exact (below_size (by repeat (first|(with_reducible first|exact HB.out|apply below_alloc|apply pw_below_drewN|apply below_drew1)|exact HB.out))) : w.heap.size ≤ gb227));have n3_:=Aside0.mk ((by rw [hg];exact (below_size (by repeat (first|(with_reducible first|exact HB.out|apply below_alloc|apply pw_below_drewN|apply below_drew1)|exact HB.out))) : w.heap.size ≤ gb227));clear HB;have HB:=n0_;have BK227:=n1_;have GW227:=n2_;have GE227:=n3_;clear n0_ n1_ n2_ n3_;clear hb hbox hg;have hcz5_0 : w4.cell? ⟨gb227,0,none⟩ = some (.bool false):=(blk_cell BK227.out 0).trans rfl;have hcz5_1 : w4.cell? ⟨gb227,1,none⟩ = some (.bool false):=(blk_cell BK227.out 1).trans rfl;have hcz5_2 : w4.cell? ⟨gb227,2,none⟩ = some (.int .i64 0):=(blk_cell BK227.out 2).trans rfl;have hcz5_3 : w4.cell? ⟨gb227,3,none⟩ = some (.int .i64 0):=(blk_cell BK227.out 3).trans rfl;have hcz5_4 : w4.cell? ⟨gb227,4,none⟩ = some (.int .i64 0):=(blk_cell BK227.out 4).trans rfl;have hcz5_5 : w4.cell? ⟨gb227,5,none⟩ = some (.slice none 0 0):=(blk_cell BK227.out 5).trans rfl;have hfz5_0:=blk_frozen BK227.out 0;have hfz5_1:=blk_frozen BK227.out 1;have hfz5_2:=blk_frozen BK227.out 2;have hfz5_3:=blk_frozen BK227.out 3;have hfz5_4:=blk_frozen BK227.out 4;have hfz5_5:=blk_frozen BK227.out 5))
  refine bodyPost_ret (results_ct rfl _ _ gb227 39 #[.bool false,.bool false,.int .i64 0,.int .i64 0,.int .i64 0,.slice none 0 0] (0,0) _ rfl (by (with_reducible repeat (first|refine blk_drewN ?_ _|refine blk_drew ?_|refine blk_alloc ?_ _));refine blk_put (cs:=#[.bool false,.bool false,.int .i64 0,.int .i64 0,.int .i64 0,.slice none 0 0]) ?_ 5 _ rfl;(with_reducible repeat (first|refine blk_drewN ?_ _|refine blk_drew ?_|refine blk_alloc ?_ _));refine blk_put (cs:=#[.bool false,.bool false,.int .i64 0,.int .i64 0,.int .i64 0,.slice none 0 0]) ?_ 4 _ rfl;(with_reducible repeat (first|refine blk_drewN ?_ _|refine blk_drew ?_|refine blk_alloc ?_ _));refine blk_put (cs:=#[.bool false,.bool false,.int .i64 0,.int .i64 0,.int .i64 0,.slice none 0 0]) ?_ 3 _ rfl;(with_reducible repeat (first|refine blk_drewN ?_ _|refine blk_drew ?_|refine blk_alloc ?_ _));refine blk_put (cs:=#[.bool false,.bool false,.int .i64 0,.int .i64 0,.int .i64 0,.slice none 0 0]) ?_ 2 _ rfl;(with_reducible repeat (first|refine blk_drewN ?_ _|refine blk_drew ?_|refine blk_alloc ?_ _));refine blk_put (cs:=#[.bool false,.bool false,.int .i64 0,.int .i64 0,.int .i64 0,.slice none 0 0]) ?_ 1 _ rfl;(with_reducible repeat (first|refine blk_drewN ?_ _|refine blk_drew ?_|refine blk_alloc ?_ _));refine blk_put (cs:=#[.bool false,.bool false,.int .i64 0,.int .i64 0,.int .i64 0,.slice none 0 0]) ?_ 0 _ rfl;(with_reducible repeat (first|refine blk_drewN ?_ _|refine blk_drew ?_|refine blk_alloc ?_ _));exact BK227.out) Try.underlying39 rfl (by kernel_rfl)) rfl ?_
  exact ⟨_,by first|rfl|(simp [errW_none,errW_some] <;> rfl)|(simp [*,errW_none,errW_some] <;> rfl),by first|exact Kd.S_nil _ _ _ _ _|exact Kd.N_nil _ _ _ _ _|exact Kd.V_nil _ _ _ _ _|exact Kd.Q_nil _ _ _ _ _|exact Kd.R_nil _ _ _ _ _,by repeat (first|(with_reducible first|exact HB.out|apply below_alloc|apply pw_below_drewN|apply below_drew1|refine below_set ?_ GE227.out)|exact HB.out)⟩
 ·rw [if_neg c3] at H
  have c3b0 : decide (6 < (l0.length : Int))=false:=decide_eq_false c3
  have c3b1 : decide (6 < l0.length)=false:=decide_eq_false (by omega)
  clear c3
  have H':=Aside0.mk H
  clear H
  go_enter Try.func25,Try.ntmps25
  go_wp2_with (first|((with_reducible refine gate_dst (N:=4) rfl ?_);refine box_event ?hg (N:=4) ?hd (cs:=#[.bool false,.bool false,.int .i64 0,.int .i64 0,.int .i64 0,.slice none 0 0]) (t:=39) ?hr ?_;(case hd=>rfl);(case hg=>rfl);(case hr=>first|(go_simp;done)|(go_simp;rfl));intro gb227 hg w6 hbox hb;have n0_:=Aside0.mk (below_step (by repeat (first|(with_reducible first|exact HB.out|apply below_alloc|apply pw_below_drewN|apply below_drew1)|exact HB.out)) hb);have n1_:=Aside0.mk (hbox);have n2_:=Aside0.mk ((by rw [hg];exact (below_size (by repeat (first|(with_reducible first|exact HB.out|apply below_alloc|apply pw_below_drewN|apply below_drew1)|exact HB.out))) : w.heap.size ≤ gb227));have n3_:=Aside0.mk ((by rw [hg];exact (below_size (by repeat (first|(with_reducible first|exact HB.out|apply below_alloc|apply pw_below_drewN|apply below_drew1)|exact HB.out))) : w.heap.size ≤ gb227));clear HB;have HB:=n0_;have BK227:=n1_;have GW227:=n2_;have GE227:=n3_;clear n0_ n1_ n2_ n3_;clear hb hbox hg)|((with_reducible refine gate_dst (N:=6) rfl ?_);refine box_event ?hg (N:=6) ?hd (cs:=#[.bool false,.bool false,.int .i64 0,.int .i64 0,.int .i64 0,.slice none 0 0]) (t:=39) ?hr ?_;(case hd=>rfl);(case hg=>rfl);(case hr=>first|(go_simp;done)|(go_simp;rfl));intro gb228 hg w7 hbox hb;have n0_:=Aside0.mk (blk_below (g:=gb227) (o:=.cells #[.bool false,.bool false,.int .i64 0,.int .i64 0,.int .i64 0,.slice none 0 0] 39 (0,0)) (by (with_reducible repeat (first|refine blk_drewN ?_ _|refine blk_drew ?_|refine blk_alloc ?_ _));exact BK227.out) hb);have n1_:=Aside0.mk (below_step (by repeat (first|(with_reducible first|exact HB.out|apply below_alloc|apply pw_below_drewN|apply below_drew1|refine below_set ?_ GE227.out)|exact HB.out)) hb);have n2_:=Aside0.mk (hbox);have n3_:=Aside0.mk ((by rw [hg];exact (below_size (by repeat (first|(with_reducible first|exact HB.out|apply below_alloc|apply pw_below_drewN|apply below_drew1|refine below_set ?_ GE227.out)|exact HB.out))) : w.heap.size ≤ gb228));have n4_:=Aside0.mk ((by rw [hg];exact (below_size (by repeat (first|(with_reducible first|exact HB.out|apply below_alloc|apply pw_below_drewN|apply below_drew1|refine below_set ?_ GE227.out)|exact HB.out))) : w.heap.size ≤ gb228));have n5_:=Aside0.mk ((by rw [hg];exact Nat.ne_of_lt (blk_lt (g:=gb227) (o:=.cells #[.bool false,.bool false,.int .i64 0,.int .i64 0,.int .i64 0,.slice none 0 0] 39 (0,0)) (by (with_reducible repeat (first|refine blk_drewN ?_ _|refine blk_drew ?_|refine blk_alloc ?_ _));exact BK227.out)) : gb227 ≠ gb228));have n6_:=Aside0.mk ((by rw [hg];exact Nat.ne_of_gt (blk_lt (g:=gb227) (o:=.cells #[.bool false,.bool false,.int .i64 0,.int .i64 0,.int .i64 0,.slice none 0 0] 39 (0,0)) (by (with_reducible repeat (first|refine blk_drewN ?_ _|refine blk_drew ?_|refine blk_alloc ?_ _));exact BK227.out)) : gb228 ≠ gb227));clear BK227;clear HB;have BK227:=n0_;have HB:=n1_;have BK228:=n2_;have GW228:=n3_;have GE228:=n4_;have NB227_228:=n5_;have NB228_227:=n6_;clear n0_ n1_ n2_ n3_ n4_ n5_ n6_;clear hb hbox hg;have hnb8:=NB228_227.out;have hnc8:=NB227_228.out;have hcz9_0 : w7.cell? ⟨gb228,0,none⟩ = some (.bool false):=(blk_cell BK228.out 0).trans rfl;have hcz9_1 : w7.cell? ⟨gb228,1,none⟩ = some (.bool false):=(blk_cell BK228.out 1).trans rfl;have hcz9_2 : w7.cell? ⟨gb228,2,none⟩ = some (.int .i64 0):=(blk_cell BK228.out 2).trans rfl;have hcz9_3 : w7.cell? ⟨gb228,3,none⟩ = some (.int .i64 0):=(blk_cell BK228.out 3).trans rfl;have hcz9_4 : w7.cell? ⟨gb228,4,none⟩ = some (.int .i64 0):=(blk_cell BK228.out 4).trans rfl;have hcz9_5 : w7.cell? ⟨gb228,5,none⟩ = some (.slice none 0 0):=(blk_cell BK228.out 5).trans rfl;have hfz9_0:=blk_frozen BK228.out 0;have hfz9_1:=blk_frozen BK228.out 1;have hfz9_2:=blk_frozen BK228.out 2;have hfz9_3:=blk_frozen BK228.out 3;have hfz9_4:=blk_frozen BK228.out 4;have hfz9_5:=blk_frozen BK228.out 5))
  go_loopg [17] k (fun kq v17 w'=>∃ (x17_1 : Int) (x228000_1 : Bool) (x228001_1 : Bool) (x228002_1 : Int) (x228003_1 : Int) (x228004_1 : Int) (x229005_1 : List (S57)) (u229005 : Value),v17 = .int .i64 x17_1∧Aside0 (impl_OldTurn.l0 kq l0 (l0.length : Int) x17_1 a1 false 255 0 0 x229005_1=some (r1,r2,r3,r4,r5,r6,r7))∧Aside0 (kq ≤ k)∧Aside0 (Kd.S k57s 57 w' w.heap.size (fun _=>True) u229005 x229005_1)∧Aside0 (w'.heap[gb227]? = some (.cells #[.bool x228000_1,.bool x228001_1,.int .i64 x228002_1,.int .i64 x228003_1,.int .i64 x228004_1,(.slice none 0 0)] 39 (0,0)))∧Aside0 (w'.heap[gb228]? = some (.cells #[.bool a1,.bool false,.int .i64 255,.int .i64 0,.int .i64 0,u229005] 39 (0,0)))∧Aside0 (Below w.heap.size w w'))
  case atStart=>exact ⟨(0),(false),(false),(0),(0),(0),(([] : List (S57))),(.slice none 0 0),(by first|rfl|(simp;done)|(simp [*];done)),H',⟨Nat.le_refl _⟩,⟨by first|exact Kd.S_nil _ _ _ _ _|exact Kd.N_nil _ _ _ _ _|exact Kd.V_nil _ _ _ _ _|exact Kd.Q_nil _ _ _ _ _|exact Kd.R_nil _ _ _ _ _⟩,⟨by (with_reducible repeat (first|refine blk_drewN ?_ _|refine blk_drew ?_|refine blk_alloc ?_ _));refine blk_far ?_ NB227_228.out _;(with_reducible repeat (first|refine blk_drewN ?_ _|refine blk_drew ?_|refine blk_alloc ?_ _));refine blk_far ?_ NB227_228.out _;(with_reducible repeat (first|refine blk_drewN ?_ _|refine blk_drew ?_|refine blk_alloc ?_ _));refine blk_far ?_ NB227_228.out _;(with_reducible repeat (first|refine blk_drewN ?_ _|refine blk_drew ?_|refine blk_alloc ?_ _));refine blk_far ?_ NB227_228.out _;(with_reducible repeat (first|refine blk_drewN ?_ _|refine blk_drew ?_|refine blk_alloc ?_ _));refine blk_far ?_ NB227_228.out _;(with_reducible repeat (first|refine blk_drewN ?_ _|refine blk_drew ?_|refine blk_alloc ?_ _));refine blk_far ?_ NB227_228.out _;(with_reducible repeat (first|refine blk_drewN ?_ _|refine blk_drew ?_|refine blk_alloc ?_ _));exact BK227.out⟩,⟨by (with_reducible repeat (first|refine blk_drewN ?_ _|refine blk_drew ?_|refine blk_alloc ?_ _));refine blk_put (cs:=#[.bool a1,.bool false,.int .i64 255,.int .i64 0,.int .i64 0,.slice none 0 0]) ?_ 5 _ rfl;(with_reducible repeat (first|refine blk_drewN ?_ _|refine blk_drew ?_|refine blk_alloc ?_ _));refine blk_put (cs:=#[.bool a1,.bool false,.int .i64 255,.int .i64 0,.int .i64 0,.slice none 0 0]) ?_ 4 _ rfl;(with_reducible repeat (first|refine blk_drewN ?_ _|refine blk_drew ?_|refine blk_alloc ?_ _));refine blk_put (cs:=#[.bool a1,.bool false,.int .i64 255,.int .i64 0,.int .i64 0,.slice none 0 0]) ?_ 3 _ rfl;(with_reducible repeat (first|refine blk_drewN ?_ _|refine blk_drew ?_|refine blk_alloc ?_ _));refine blk_put (cs:=#[.bool a1,.bool false,.int .i64 0,.int .i64 0,.int .i64 0,.slice none 0 0]) ?_ 2 _ rfl;(with_reducible repeat (first|refine blk_drewN ?_ _|refine blk_drew ?_|refine blk_alloc ?_ _));refine blk_put (cs:=#[.bool a1,.bool false,.int .i64 0,.int .i64 0,.int .i64 0,.slice none 0 0]) ?_ 1 _ rfl;(with_reducible repeat (first|refine blk_drewN ?_ _|refine blk_drew ?_|refine blk_alloc ?_ _));refine blk_put (cs:=#[.bool false,.bool false,.int .i64 0,.int .i64 0,.int .i64 0,.slice none 0 0]) ?_ 0 _ rfl;(with_reducible repeat (first|refine blk_drewN ?_ _|refine blk_drew ?_|refine blk_alloc ?_ _));exact BK228.out⟩,⟨by repeat (first|(with_reducible first|exact HB.out|apply below_alloc|apply pw_below_drewN|apply below_drew1|refine below_set ?_ GE227.out|refine below_set ?_ GE228.out)|exact HB.out)⟩⟩
  case round =>
   clear H'
   try clear c2
   try clear p2
   try clear c3
   try clear c3b0
   try clear c3b1
   try clear c8
   try clear hcz5_0
   try clear hcz5_1
   try clear hcz5_2
   try clear hcz5_3
   try clear hcz5_4
   try clear hcz5_5
   try clear hcz9_0
   try clear hcz9_1
   try clear hcz9_2
   try clear hcz9_3
   try clear hcz9_4
   try clear hcz9_5
   try clear hfz5_0
   try clear hfz5_1
   try clear hfz5_2
   try clear hfz5_3
   try clear hfz5_4
   try clear hfz5_5
   try clear hfz9_0
   try clear hfz9_1
   try clear hfz9_2
   try clear hfz9_3
   try clear hfz9_4
   try clear hfz9_5
   obtain ⟨x17_1,x228000_1,x228001_1,x228002_1,x228003_1,x228004_1,x229005_1,u229005,rfl,HA,HK1,HO_229005,BK227,BK228,HB⟩:=hrel
   cases gk with
   | zero=>exact absurd HA.out (by simp [impl_OldTurn.l0])
   | succ k1 =>
    have H:=HA.out
    clear HA
    simp only [impl_OldTurn.l0] at H
    by_cases c10 : x17_1 < (l0.length : Int)
    ·rw [if_pos c10] at H
     have c10b0 : decide (x17_1 < (l0.length : Int))=true:=decide_eq_true c10
     clear c10
     by_cases c11 : 0 ≤ x17_1
     ·rw [if_pos c11] at H
      have c11b0 : decide (0 ≤ x17_1)=true:=decide_eq_true c11
      clear c11
      by_cases c12 : x17_1 < (l0.length : Int)
      ·rw [if_pos c12] at H
       have c12b0 : decide (x17_1 < (l0.length : Int))=true:=decide_eq_true c12
       clear c12
       replace H:=Option.bind_eq_some_iff.mp H
       obtain ⟨t232,A130,H⟩:=H
       replace H : (if t232=true then ((impl_Old_kept.f ((rd_T26 l0 x17_1).f0) ((rd_T26 l0 x17_1).f1) ((rd_T26 l0 x17_1).f2) ((rd_T26 l0 x17_1).f3) ((rd_T26 l0 x17_1).f4) ((rd_T26 l0 x17_1).f5) ((rd_T26 l0 x17_1).f6)).bind fun bt233=>(if x229005_1.length < 1759218604441 then (impl_OldTurn.l0 k1 l0 (l0.length : Int) (wrap64 (x17_1 + 1)) a1 false 255 0 0 (x229005_1 ++ [(⟨bt233.1,bt233.2.1,bt233.2.2.1,bt233.2.2.2.1,bt233.2.2.2.2.1,bt233.2.2.2.2.2⟩ : S57)])) else (none))) else (some (false,false,0,0,0,([] : List (S57)),false)))=some (r1,r2,r3,r4,r5,r6,r7):=H
       have A13:=Aside0.mk A130
       clear A130
       by_cases c14 : t232=true
       ·subst c14
        have H1 : ((impl_Old_kept.f ((rd_T26 l0 x17_1).f0) ((rd_T26 l0 x17_1).f1) ((rd_T26 l0 x17_1).f2) ((rd_T26 l0 x17_1).f3) ((rd_T26 l0 x17_1).f4) ((rd_T26 l0 x17_1).f5) ((rd_T26 l0 x17_1).f6)).bind fun bt233=>(if x229005_1.length < 1759218604441 then (impl_OldTurn.l0 k1 l0 (l0.length : Int) (wrap64 (x17_1 + 1)) a1 false 255 0 0 (x229005_1 ++ [(⟨bt233.1,bt233.2.1,bt233.2.2.1,bt233.2.2.2.1,bt233.2.2.2.2.1,bt233.2.2.2.2.2⟩ : S57)])) else (none)))=some (r1,r2,r3,r4,r5,r6,r7):=by rw [if_pos rfl] at H;exact H
        clear H
        have H:=H1
        clear H1
        replace H:=Option.bind_eq_some_iff.mp H
        obtain ⟨⟨t233,t234,t235,t236,t239,t240⟩,A150,H⟩:=H
        replace H : (if x229005_1.length < 1759218604441 then (impl_OldTurn.l0 k1 l0 (l0.length : Int) (wrap64 (x17_1 + 1)) a1 false 255 0 0 (x229005_1 ++ [(⟨t233,t234,t235,t236,t239,t240⟩ : S57)])) else (none))=some (r1,r2,r3,r4,r5,r6,r7):=H
        have A15:=Aside0.mk A150
        clear A150
        by_cases c16 : x229005_1.length < 1759218604441
        ·rw [if_pos c16] at H
         have LMc16:=Aside0.mk c16
         clear c16
         obtain ⟨y243,hy243⟩ : ∃ y_ : List (S57),y_=(x229005_1 ++ [(⟨t233,t234,t235,t236,t239,t240⟩ : S57)]):=⟨_,rfl⟩
         replace H : (impl_OldTurn.l0 k1 l0 (l0.length : Int) (wrap64 (x17_1 + 1)) a1 false 255 0 0 y243)=some (r1,r2,r3,r4,r5,r6,r7):=by first|(rw [hy243];with_reducible exact H)|(have H2_:=(Option.bind_some _ _).symm.trans H;rw [hy243];with_reducible exact H2_)|(have H2_:=(Option.bind_some _ _).symm.trans H;with_reducible exact H2_)|with_reducible exact H|(rw [hy243];exact H)|exact H
         have Ny243:=Aside0.mk hy243
         clear hy243
         have H':=Aside0.mk H
         clear H
         have p230 : 0 ≤ (x17_1 : Int):=of_decide_eq_true (by first|(with_reducible assumption)|assumption)
         have q230 : x17_1 < (l0.length : Int):=of_decide_eq_true (by first|(with_reducible assumption)|assumption)
         obtain ⟨ad230,A230_3,c230_3,A230_4,c230_4,e230,hx230_0,hx230_1,hx230_2,hx230_3,hx230_4,hx230_5,hx230_6,hl230_3,hi230_3,hl230_4,hi230_4⟩:=at_T26 HR0.out x17_1 p230 q230
         cases e230
         replace hx230_0:=(HB.out.cell (World.block_lt_of_cell? w _ hx230_0)).trans hx230_0
         replace hx230_1:=(HB.out.cell (World.block_lt_of_cell? w _ hx230_1)).trans hx230_1
         replace hx230_2:=(HB.out.cell (World.block_lt_of_cell? w _ hx230_2)).trans hx230_2
         replace hx230_3:=(HB.out.cell (World.block_lt_of_cell? w _ hx230_3)).trans hx230_3
         replace hx230_4:=(HB.out.cell (World.block_lt_of_cell? w _ hx230_4)).trans hx230_4
         replace hx230_5:=(HB.out.cell (World.block_lt_of_cell? w _ hx230_5)).trans hx230_5
         replace hx230_6:=(HB.out.cell (World.block_lt_of_cell? w _ hx230_6)).trans hx230_6
         have HR230_3:=Aside0.mk hi230_3
         have HC230_3:=Aside0.mk hl230_3
         clear hi230_3 hl230_3
         have HR230_4:=Aside0.mk hi230_4
         have HC230_4:=Aside0.mk hl230_4
         clear hi230_4 hl230_4
         replace p230:=eq_true p230
         replace q230:=eq_true q230
         try go_wp2_with (first|((with_reducible refine gate_dst (N:=8) rfl ?_);refine box_event ?hg (N:=8) ?hd (cs:=#[.int .i64 0,.bool false,.int .i64 0,.slice none 0 0,.slice none 0 0,.bool false,.bool false]) (t:=26) ?hr ?_;(case hd=>rfl);(case hg=>rfl);(case hr=>first|(go_simp;done)|(go_simp;rfl));intro gb231 hg w17 hbox hb;have n0_:=Aside0.mk (Kd.S_below (by (with_reducible repeat (first|apply Kd.S_alloc|apply Kd.S_drewN|apply Kd.S_drew));exact HO_229005.out) hb);have n1_:=Aside0.mk (blk_below (g:=gb227) (o:=.cells #[.bool x228000_1,.bool x228001_1,.int .i64 x228002_1,.int .i64 x228003_1,.int .i64 x228004_1,.slice none 0 0] 39 (0,0)) (by (with_reducible repeat (first|refine blk_drewN ?_ _|refine blk_drew ?_|refine blk_alloc ?_ _));exact BK227.out) hb);have n2_:=Aside0.mk (blk_below (g:=gb228) (o:=.cells #[.bool a1,.bool false,.int .i64 255,.int .i64 0,.int .i64 0,u229005] 39 (0,0)) (by (with_reducible repeat (first|refine blk_drewN ?_ _|refine blk_drew ?_|refine blk_alloc ?_ _));exact BK228.out) hb);have n3_:=Aside0.mk (below_step (by repeat (first|(with_reducible first|exact HB.out|apply below_alloc|apply pw_below_drewN|apply below_drew1|refine below_set ?_ GE227.out|refine below_set ?_ GE228.out)|exact HB.out)) hb);have n4_:=Aside0.mk (hbox);have n5_:=Aside0.mk ((by rw [hg];exact (below_size (by repeat (first|(with_reducible first|exact HB.out|apply below_alloc|apply pw_below_drewN|apply below_drew1|refine below_set ?_ GE227.out|refine below_set ?_ GE228.out)|exact HB.out))) : w.heap.size ≤ gb231));have n6_:=Aside0.mk ((by rw [hg];exact (below_size (by repeat (first|(with_reducible first|exact HB.out|apply below_alloc|apply pw_below_drewN|apply below_drew1|refine below_set ?_ GE227.out|refine below_set ?_ GE228.out)|exact HB.out))) : w.heap.size ≤ gb231));have n7_:=Aside0.mk ((by rw [hg];exact Nat.ne_of_lt (blk_lt (g:=gb227) (o:=.cells #[.bool x228000_1,.bool x228001_1,.int .i64 x228002_1,.int .i64 x228003_1,.int .i64 x228004_1,.slice none 0 0] 39 (0,0)) (by (with_reducible repeat (first|refine blk_drewN ?_ _|refine blk_drew ?_|refine blk_alloc ?_ _));exact BK227.out)) : gb227 ≠ gb231));have n8_:=Aside0.mk ((by rw [hg];exact Nat.ne_of_gt (blk_lt (g:=gb227) (o:=.cells #[.bool x228000_1,.bool x228001_1,.int .i64 x228002_1,.int .i64 x228003_1,.int .i64 x228004_1,.slice none 0 0] 39 (0,0)) (by (with_reducible repeat (first|refine blk_drewN ?_ _|refine blk_drew ?_|refine blk_alloc ?_ _));exact BK227.out)) : gb231 ≠ gb227));have n9_:=Aside0.mk ((by rw [hg];exact Nat.ne_of_lt (blk_lt (g:=gb228) (o:=.cells #[.bool a1,.bool false,.int .i64 255,.int .i64 0,.int .i64 0,u229005] 39 (0,0)) (by (with_reducible repeat (first|refine blk_drewN ?_ _|refine blk_drew ?_|refine blk_alloc ?_ _));exact BK228.out)) : gb228 ≠ gb231));have n10_:=Aside0.mk ((by rw [hg];exact Nat.ne_of_gt (blk_lt (g:=gb228) (o:=.cells #[.bool a1,.bool false,.int .i64 255,.int .i64 0,.int .i64 0,u229005] 39 (0,0)) (by (with_reducible repeat (first|refine blk_drewN ?_ _|refine blk_drew ?_|refine blk_alloc ?_ _));exact BK228.out)) : gb231 ≠ gb228));clear HO_229005;clear BK227;clear BK228;clear HB;have HO_229005:=n0_;have BK227:=n1_;have BK228:=n2_;have HB:=n3_;have BK231:=n4_;have GW231:=n5_;have GE231:=n6_;have NB227_231:=n7_;have NB231_227:=n8_;have NB228_231:=n9_;have NB231_228:=n10_;clear n0_ n1_ n2_ n3_ n4_ n5_ n6_ n7_ n8_ n9_ n10_;clear hb hbox hg;have hnb18:=NB231_227.out;have hnc18:=NB227_231.out;have hnb19:=NB231_228.out;have hnc19:=NB228_231.out;have hcz20_0 : w17.cell? ⟨gb231,0,none⟩ = some (.int .i64 0):=(blk_cell BK231.out 0).trans rfl;have hcz20_1 : w17.cell? ⟨gb231,1,none⟩ = some (.bool false):=(blk_cell BK231.out 1).trans rfl;have hcz20_2 : w17.cell? ⟨gb231,2,none⟩ = some (.int .i64 0):=(blk_cell BK231.out 2).trans rfl;have hcz20_3 : w17.cell? ⟨gb231,3,none⟩ = some (.slice none 0 0):=(blk_cell BK231.out 3).trans rfl;have hcz20_4 : w17.cell? ⟨gb231,4,none⟩ = some (.slice none 0 0):=(blk_cell BK231.out 4).trans rfl;have hcz20_5 : w17.cell? ⟨gb231,5,none⟩ = some (.bool false):=(blk_cell BK231.out 5).trans rfl;have hcz20_6 : w17.cell? ⟨gb231,6,none⟩ = some (.bool false):=(blk_cell BK231.out 6).trans rfl;have hfz20_0:=blk_frozen BK231.out 0;have hfz20_1:=blk_frozen BK231.out 1;have hfz20_2:=blk_frozen BK231.out 2;have hfz20_3:=blk_frozen BK231.out 3;have hfz20_4:=blk_frozen BK231.out 4;have hfz20_5:=blk_frozen BK231.out 5;have hfz20_6:=blk_frozen BK231.out 6)|((with_reducible refine gate_callee (f:=20) rfl ?_);refine goesL_ (some 22) rfl rfl Try.func20 (by kernel_rfl) rfl #[.agg #[.int .i64 ((rd_T26 l0 x17_1).f0),.bool ((rd_T26 l0 x17_1).f1),.int .i64 ((rd_T26 l0 x17_1).f2),.slice A230_3 ((rd_T26 l0 x17_1).f3).length c230_3,.slice A230_4 ((rd_T26 l0 x17_1).f4).length c230_4,.bool ((rd_T26 l0 x17_1).f5),.bool ((rd_T26 l0 x17_1).f6)]] rfl (by (try simp only [List.map_toArray,List.map_cons,List.map_nil]);first|done|rfl|(simp only [List.length_drop,List.length_take];rfl)) ?_;(with_reducible refine (impl_OldValid.calls k1 ((rd_T26 l0 x17_1).f0) ((rd_T26 l0 x17_1).f1) ((rd_T26 l0 x17_1).f2) _ _ ((rd_T26 l0 x17_1).f3) _ _ ((rd_T26 l0 x17_1).f4) ((rd_T26 l0 x17_1).f5) ((rd_T26 l0 x17_1).f6) true _ ?side1 ?side2 ?side3 ?side4 A13.out).mono ?_);(case side1=>exact Kd.C_below HR230_3.out (by repeat (first|(with_reducible first|exact HB.out|apply below_alloc|apply pw_below_drewN|apply below_drew1|refine below_set ?_ GE227.out|refine below_set ?_ GE228.out|refine below_set ?_ GE231.out)|exact HB.out)));(case side2=>exact HC230_3.out);(case side3=>exact Kd.C_below HR230_4.out (by repeat (first|(with_reducible first|exact HB.out|apply below_alloc|apply pw_below_drewN|apply below_drew1|refine below_set ?_ GE227.out|refine below_set ?_ GE228.out|refine below_set ?_ GE231.out)|exact HB.out)));(case side4=>exact HC230_4.out);rintro e w21 ⟨rfl,hb⟩;refine ⟨_,rfl,?_⟩;have n0_:=Aside0.mk (Kd.S_below (by (with_reducible repeat (first|apply Kd.S_alloc|apply Kd.S_drewN|apply Kd.S_drew));exact (Kd.S_mono (Kd.S_far (p:=⟨gb231,6,none⟩) (Kd.S_far (p:=⟨gb231,5,none⟩) (Kd.S_far (p:=⟨gb231,4,none⟩) (Kd.S_far (p:=⟨gb231,3,none⟩) (Kd.S_far (p:=⟨gb231,2,none⟩) (Kd.S_far (p:=⟨gb231,1,none⟩) (Kd.S_far (p:=⟨gb231,0,none⟩) (Kd.S_types HO_229005.out BK231.out (by decide)) (fun _ hk=>hk.2) (.int .i64 ((rd_T26 l0 x17_1).f0))) (fun _ hk=>hk.2) (.bool ((rd_T26 l0 x17_1).f1))) (fun _ hk=>hk.2) (.int .i64 ((rd_T26 l0 x17_1).f2))) (fun _ hk=>hk.2) (.slice A230_3 ((rd_T26 l0 x17_1).f3).length c230_3)) (fun _ hk=>hk.2) (.slice A230_4 ((rd_T26 l0 x17_1).f4).length c230_4)) (fun _ hk=>hk.2) (.bool ((rd_T26 l0 x17_1).f5))) (fun _ hk=>hk.2) (.bool ((rd_T26 l0 x17_1).f6))) (fun _ h_=>h_.1))) hb);have n1_:=Aside0.mk (blk_below (g:=gb227) (o:=.cells #[.bool x228000_1,.bool x228001_1,.int .i64 x228002_1,.int .i64 x228003_1,.int .i64 x228004_1,.slice none 0 0] 39 (0,0)) (by (with_reducible repeat (first|refine blk_drewN ?_ _|refine blk_drew ?_|refine blk_alloc ?_ _));refine blk_far ?_ NB227_231.out _;(with_reducible repeat (first|refine blk_drewN ?_ _|refine blk_drew ?_|refine blk_alloc ?_ _));refine blk_far ?_ NB227_231.out _;(with_reducible repeat (first|refine blk_drewN ?_ _|refine blk_drew ?_|refine blk_alloc ?_ _));refine blk_far ?_ NB227_231.out _;(with_reducible repeat (first|refine blk_drewN ?_ _|refine blk_drew ?_|refine blk_alloc ?_ _));refine blk_far ?_ NB227_231.out _;(with_reducible repeat (first|refine blk_drewN ?_ _|refine blk_drew ?_|refine blk_alloc ?_ _));refine blk_far ?_ NB227_231.out _;(with_reducible repeat (first|refine blk_drewN ?_ _|refine blk_drew ?_|refine blk_alloc ?_ _));refine blk_far ?_ NB227_231.out _;(with_reducible repeat (first|refine blk_drewN ?_ _|refine blk_drew ?_|refine blk_alloc ?_ _));refine blk_far ?_ NB227_231.out _;(with_reducible repeat (first|refine blk_drewN ?_ _|refine blk_drew ?_|refine blk_alloc ?_ _));exact BK227.out) hb);have n2_:=Aside0.mk (blk_below (g:=gb228) (o:=.cells #[.bool a1,.bool false,.int .i64 255,.int .i64 0,.int .i64 0,u229005] 39 (0,0)) (by (with_reducible repeat (first|refine blk_drewN ?_ _|refine blk_drew ?_|refine blk_alloc ?_ _));refine blk_far ?_ NB228_231.out _;(with_reducible repeat (first|refine blk_drewN ?_ _|refine blk_drew ?_|refine blk_alloc ?_ _));refine blk_far ?_ NB228_231.out _;(with_reducible repeat (first|refine blk_drewN ?_ _|refine blk_drew ?_|refine blk_alloc ?_ _));refine blk_far ?_ NB228_231.out _;(with_reducible repeat (first|refine blk_drewN ?_ _|refine blk_drew ?_|refine blk_alloc ?_ _));refine blk_far ?_ NB228_231.out _;(with_reducible repeat (first|refine blk_drewN ?_ _|refine blk_drew ?_|refine blk_alloc ?_ _));refine blk_far ?_ NB228_231.out _;(with_reducible repeat (first|refine blk_drewN ?_ _|refine blk_drew ?_|refine blk_alloc ?_ _));refine blk_far ?_ NB228_231.out _;(with_reducible repeat (first|refine blk_drewN ?_ _|refine blk_drew ?_|refine blk_alloc ?_ _));refine blk_far ?_ NB228_231.out _;(with_reducible repeat (first|refine blk_drewN ?_ _|refine blk_drew ?_|refine blk_alloc ?_ _));exact BK228.out) hb);have n3_:=Aside0.mk (blk_below (g:=gb231) (o:=.cells #[.int .i64 ((rd_T26 l0 x17_1).f0),.bool ((rd_T26 l0 x17_1).f1),.int .i64 ((rd_T26 l0 x17_1).f2),.slice A230_3 ((rd_T26 l0 x17_1).f3).length c230_3,.slice A230_4 ((rd_T26 l0 x17_1).f4).length c230_4,.bool ((rd_T26 l0 x17_1).f5),.bool ((rd_T26 l0 x17_1).f6)] 26 (0,0)) (by (with_reducible repeat (first|refine blk_drewN ?_ _|refine blk_drew ?_|refine blk_alloc ?_ _));refine blk_put (cs:=#[.int .i64 ((rd_T26 l0 x17_1).f0),.bool ((rd_T26 l0 x17_1).f1),.int .i64 ((rd_T26 l0 x17_1).f2),.slice A230_3 ((rd_T26 l0 x17_1).f3).length c230_3,.slice A230_4 ((rd_T26 l0 x17_1).f4).length c230_4,.bool ((rd_T26 l0 x17_1).f5),.bool false]) ?_ 6 _ rfl;(with_reducible repeat (first|refine blk_drewN ?_ _|refine blk_drew ?_|refine blk_alloc ?_ _));refine blk_put (cs:=#[.int .i64 ((rd_T26 l0 x17_1).f0),.bool ((rd_T26 l0 x17_1).f1),.int .i64 ((rd_T26 l0 x17_1).f2),.slice A230_3 ((rd_T26 l0 x17_1).f3).length c230_3,.slice A230_4 ((rd_T26 l0 x17_1).f4).length c230_4,.bool false,.bool false]) ?_ 5 _ rfl;(with_reducible repeat (first|refine blk_drewN ?_ _|refine blk_drew ?_|refine blk_alloc ?_ _));refine blk_put (cs:=#[.int .i64 ((rd_T26 l0 x17_1).f0),.bool ((rd_T26 l0 x17_1).f1),.int .i64 ((rd_T26 l0 x17_1).f2),.slice A230_3 ((rd_T26 l0 x17_1).f3).length c230_3,.slice none 0 0,.bool false,.bool false]) ?_ 4 _ rfl;(with_reducible repeat (first|refine blk_drewN ?_ _|refine blk_drew ?_|refine blk_alloc ?_ _));refine blk_put (cs:=#[.int .i64 ((rd_T26 l0 x17_1).f0),.bool ((rd_T26 l0 x17_1).f1),.int .i64 ((rd_T26 l0 x17_1).f2),.slice none 0 0,.slice none 0 0,.bool false,.bool false]) ?_ 3 _ rfl;(with_reducible repeat (first|refine blk_drewN ?_ _|refine blk_drew ?_|refine blk_alloc ?_ _));refine blk_put (cs:=#[.int .i64 ((rd_T26 l0 x17_1).f0),.bool ((rd_T26 l0 x17_1).f1),.int .i64 0,.slice none 0 0,.slice none 0 0,.bool false,.bool false]) ?_ 2 _ rfl;(with_reducible repeat (first|refine blk_drewN ?_ _|refine blk_drew ?_|refine blk_alloc ?_ _));refine blk_put (cs:=#[.int .i64 ((rd_T26 l0 x17_1).f0),.bool false,.int .i64 0,.slice none 0 0,.slice none 0 0,.bool false,.bool false]) ?_ 1 _ rfl;(with_reducible repeat (first|refine blk_drewN ?_ _|refine blk_drew ?_|refine blk_alloc ?_ _));refine blk_put (cs:=#[.int .i64 0,.bool false,.int .i64 0,.slice none 0 0,.slice none 0 0,.bool false,.bool false]) ?_ 0 _ rfl;(with_reducible repeat (first|refine blk_drewN ?_ _|refine blk_drew ?_|refine blk_alloc ?_ _));exact BK231.out) hb);have n4_:=Aside0.mk (below_step (by repeat (first|(with_reducible first|exact HB.out|apply below_alloc|apply pw_below_drewN|apply below_drew1|refine below_set ?_ GE227.out|refine below_set ?_ GE228.out|refine below_set ?_ GE231.out)|exact HB.out)) hb);clear HO_229005;clear BK227;clear BK228;clear BK231;clear HB;have HO_229005:=n0_;have BK227:=n1_;have BK228:=n2_;have BK231:=n3_;have HB:=n4_;clear n0_ n1_ n2_ n3_ n4_;(try clear hb);(try clear hb2);(try clear hk);(try clear hi)))
         have n0_:=Aside0.mk (Kd.S_drew HO_229005.out)
         have n1_:=Aside0.mk (blk_drew BK227.out)
         have n2_:=Aside0.mk (blk_drew BK228.out)
         have n3_:=Aside0.mk (blk_drew BK231.out)
         have n4_:=Aside0.mk (below_drew1 HB.out)
         clear HO_229005
         clear BK227
         clear BK228
         clear BK231
         clear HB
         have HO_229005:=n0_
         have BK227:=n1_
         have BK228:=n2_
         have BK231:=n3_
         have HB:=n4_
         clear n0_ n1_ n2_ n3_ n4_
         refine start_ (n:=8) (S:=fun w'=>w'.cell? ⟨gb228,0,none⟩ = some (.bool a1)∧w'.cell? ⟨gb228,1,none⟩ = some (.bool false)∧w'.cell? ⟨gb228,2,none⟩ = some (.int .i64 255)∧w'.cell? ⟨gb228,3,none⟩ = some (.int .i64 0)∧w'.cell? ⟨gb228,4,none⟩ = some (.int .i64 0)∧w'.cell? ⟨gb228,5,none⟩ = some (u229005)∧w'.cell? ⟨gb231,0,none⟩ = some (.int .i64 ((rd_T26 l0 x17_1).f0))∧w'.cell? ⟨gb231,1,none⟩ = some (.bool ((rd_T26 l0 x17_1).f1))∧w'.cell? ⟨gb231,2,none⟩ = some (.int .i64 ((rd_T26 l0 x17_1).f2))∧w'.cell? ⟨gb231,3,none⟩ = some (.slice A230_3 ((rd_T26 l0 x17_1).f3).length c230_3)∧w'.cell? ⟨gb231,4,none⟩ = some (.slice A230_4 ((rd_T26 l0 x17_1).f4).length c230_4)∧w'.cell? ⟨gb231,5,none⟩ = some (.bool ((rd_T26 l0 x17_1).f5))∧w'.cell? ⟨gb231,6,none⟩ = some (.bool ((rd_T26 l0 x17_1).f6))) (ds:=[7]) #[false,false,false,false,false,false,false,false] (by kernel_rfl) rfl rfl ⟨(blk_cell BK228.out 0).trans rfl,(blk_cell BK228.out 1).trans rfl,(blk_cell BK228.out 2).trans rfl,(blk_cell BK228.out 3).trans rfl,(blk_cell BK228.out 4).trans rfl,(blk_cell BK228.out 5).trans rfl,(blk_cell BK231.out 0).trans rfl,(blk_cell BK231.out 1).trans rfl,(blk_cell BK231.out 2).trans rfl,(blk_cell BK231.out 3).trans rfl,(blk_cell BK231.out 4).trans rfl,(blk_cell BK231.out 5).trans rfl,(blk_cell BK231.out 6).trans rfl⟩ (fun hHeld=>?_);refine with_tabW impl_OldTurn.tab9 impl_OldTurn.bits9 (fun HT_ HW_=>?_)
         generalize w21.drew=w22 at HO_229005 BK227 BK228 BK231 HB hHeld ⊢
         refine pure_ (i:=0) (N:=some 25) (v:=?_) (a':=?_) #[true,false,false,false,false,false,false,false] rfl rfl (any_of HT_.out (by kernel_rfl)) (fun _ _ _ h=>h) (Or.inl ⟨by rfl,?_⟩) ?_ ?_
         rotate_left
         ·intro w'
          go_simp
          with_reducible rfl
         rotate_left
         ·simp only [Act.put,List.setIfInBounds_toArray,List.set_cons_zero,List.set_cons_succ,i64_w,i32_w]
          rfl
         refine take_ (i:=1) (N:=some 26) (v:=?_) (a':=?_) #[true,true,false,false,false,false,false,false] rfl rfl (take_ofW HT_.out HW_.out (by kernel_rfl)) (fun _ _ _ h=>h) (Or.inl ⟨by rfl,?_⟩) hHeld ?_ ?_
         rotate_left
         ·rintro w' ⟨s0,s1,s2,s3,s4,s5,s6,s7,s8,s9,s10,s11,s12⟩
          go_simp
          with_reducible rfl
         rotate_left
         ·simp only [Act.put,List.setIfInBounds_toArray,List.set_cons_zero,List.set_cons_succ,i64_w,i32_w]
          rfl
         refine take_ (i:=2) (N:=some 27) (v:=?_) (a':=?_) #[true,true,true,false,false,false,false,false] rfl rfl (take_ofW HT_.out HW_.out (by kernel_rfl)) (fun _ _ _ h=>h) (Or.inl ⟨by rfl,?_⟩) hHeld ?_ ?_
         rotate_left
         ·rintro w' ⟨s0,s1,s2,s3,s4,s5,s6,s7,s8,s9,s10,s11,s12⟩
          go_simp
          with_reducible rfl
         rotate_left
         ·simp only [Act.put,List.setIfInBounds_toArray,List.set_cons_zero,List.set_cons_succ,i64_w,i32_w]
          rfl
         refine one_ (i:=3) (N:=some 28) #[true,true,true,true,false,false,false,false] rfl rfl (one_of HT_.out (by kernel_rfl)) (by decide) (fun K hK=>?_)
         refine goes_ Try.func63 (by kernel_rfl) rfl #[.agg #[.int .i64 ((rd_T26 l0 x17_1).f0),.bool ((rd_T26 l0 x17_1).f1),.int .i64 ((rd_T26 l0 x17_1).f2),.slice A230_3 ((rd_T26 l0 x17_1).f3).length c230_3,.slice A230_4 ((rd_T26 l0 x17_1).f4).length c230_4,.bool ((rd_T26 l0 x17_1).f5),.bool ((rd_T26 l0 x17_1).f6)]] (by rfl) rfl rfl (by (try simp only [List.map_toArray,List.map_cons,List.map_nil]);first|done|rfl|(simp only [List.length_drop,List.length_take];rfl)) ?_
         with_reducible refine (impl_Old_kept.calls ((rd_T26 l0 x17_1).f0) ((rd_T26 l0 x17_1).f1) ((rd_T26 l0 x17_1).f2) _ _ ((rd_T26 l0 x17_1).f3) _ _ ((rd_T26 l0 x17_1).f4) ((rd_T26 l0 x17_1).f5) ((rd_T26 l0 x17_1).f6) t233 t234 t235 t236 t239 t240 _ ?side1 ?side2 ?side3 ?side4 A15.out).mono ?_
         (case side1=>repeat (first|exact (Kd.C_below HR230_3.out HB.out)|(with_reducible refine Kd.C_alloc ?_ _)|(with_reducible refine Kd.C_drewN ?_ _)|(with_reducible refine Kd.C_drew ?_)))
         (case side2=>exact HC230_3.out)
         (case side3=>repeat (first|exact (Kd.C_below HR230_4.out HB.out)|(with_reducible refine Kd.C_alloc ?_ _)|(with_reducible refine Kd.C_drewN ?_ _)|(with_reducible refine Kd.C_drew ?_)))
         (case side4=>exact HC230_4.out)
         rintro e w23 ⟨v237,v241,rfl,ho0,ho1,hb⟩
         refine ⟨_,rfl,?_⟩
         have n0_:=Aside0.mk (Kd.S_mono (Kd.S_told (Kd.S_told (Kd.S_old (by (with_reducible repeat (first|apply Kd.S_alloc|apply Kd.S_drewN|apply Kd.S_drew));exact HO_229005.out) hb) (Kd.R_base ho0)) (Kd.R_base ho1)) (fun _ h_=>h_.1))
         have n1_:=Aside0.mk (Kd.R_lower ho0 (below_size (by repeat (first|(with_reducible first|exact HB.out|apply below_alloc|apply pw_below_drewN|apply below_drew1|refine below_set ?_ GE227.out|refine below_set ?_ GE228.out|refine below_set ?_ GE231.out)|exact HB.out))))
         have n2_:=Aside0.mk (Kd.R_lower ho1 (below_size (by repeat (first|(with_reducible first|exact HB.out|apply below_alloc|apply pw_below_drewN|apply below_drew1|refine below_set ?_ GE227.out|refine below_set ?_ GE228.out|refine below_set ?_ GE231.out)|exact HB.out))))
         have n3_:=Aside0.mk (blk_below (g:=gb227) (o:=.cells #[.bool x228000_1,.bool x228001_1,.int .i64 x228002_1,.int .i64 x228003_1,.int .i64 x228004_1,.slice none 0 0] 39 (0,0)) (by (with_reducible repeat (first|refine blk_drewN ?_ _|refine blk_drew ?_|refine blk_alloc ?_ _));exact BK227.out) hb)
         have n4_:=Aside0.mk (blk_below (g:=gb228) (o:=.cells #[.bool a1,.bool false,.int .i64 255,.int .i64 0,.int .i64 0,u229005] 39 (0,0)) (by (with_reducible repeat (first|refine blk_drewN ?_ _|refine blk_drew ?_|refine blk_alloc ?_ _));exact BK228.out) hb)
         have n5_:=Aside0.mk (blk_below (g:=gb231) (o:=.cells #[.int .i64 ((rd_T26 l0 x17_1).f0),.bool ((rd_T26 l0 x17_1).f1),.int .i64 ((rd_T26 l0 x17_1).f2),.slice A230_3 ((rd_T26 l0 x17_1).f3).length c230_3,.slice A230_4 ((rd_T26 l0 x17_1).f4).length c230_4,.bool ((rd_T26 l0 x17_1).f5),.bool ((rd_T26 l0 x17_1).f6)] 26 (0,0)) (by (with_reducible repeat (first|refine blk_drewN ?_ _|refine blk_drew ?_|refine blk_alloc ?_ _));exact BK231.out) hb)
         have n6_:=Aside0.mk (below_step (by repeat (first|(with_reducible first|exact HB.out|apply below_alloc|apply pw_below_drewN|apply below_drew1|refine below_set ?_ GE227.out|refine below_set ?_ GE228.out|refine below_set ?_ GE231.out)|exact HB.out)) hb)
         clear HO_229005
         clear BK227
         clear BK228
         clear BK231
         clear HB
         have HO_229005:=n0_
         have HO238:=n1_
         have HO242:=n2_
         have BK227:=n3_
         have BK228:=n4_
         have BK231:=n5_
         have HB:=n6_
         clear n0_ n1_ n2_ n3_ n4_ n5_ n6_
         (try clear hb)
         (try clear hb2)
         (try clear hk)
         (try clear hi)
         (try clear ho0)
         (try clear ho1)
         obtain ⟨Ao25,co25,eo25⟩:=Kd.R_slice HO238.out
         (first|subst eo25|(injection eo25 with f1_ f2_ f3_;have f4_:=f1_.symm;have f5_:=f3_.symm;clear f1_ f2_ f3_;subst f4_;subst f5_))
         obtain ⟨Ao26,co26,eo26⟩:=Kd.R_slice HO242.out
         (first|subst eo26|(injection eo26 with f1_ f2_ f3_;have f4_:=f1_.symm;have f5_:=f3_.symm;clear f1_ f2_ f3_;subst f4_;subst f5_))
         refine hK.out _ _ ⟨(blk_cell BK228.out 0).trans rfl,(blk_cell BK228.out 1).trans rfl,(blk_cell BK228.out 2).trans rfl,(blk_cell BK228.out 3).trans rfl,(blk_cell BK228.out 4).trans rfl,(blk_cell BK228.out 5).trans rfl,(blk_cell BK231.out 0).trans rfl,(blk_cell BK231.out 1).trans rfl,(blk_cell BK231.out 2).trans rfl,(blk_cell BK231.out 3).trans rfl,(blk_cell BK231.out 4).trans rfl,(blk_cell BK231.out 5).trans rfl,(blk_cell BK231.out 6).trans rfl⟩ (fun hHeld=>?_)
         clear hK K
         refine norm_ (a':=?_) ?_ ?_
         rotate_left
         ·show Act.put _ (some 28) _=_
          simp only [Act.put,List.setIfInBounds_toArray,List.set_cons_zero,List.set_cons_succ,i64_w,i32_w]
          rfl
         refine one_ (i:=4) (N:=some 29) #[true,true,true,true,true,false,false,false] rfl rfl (one_of HT_.out (by kernel_rfl)) (by decide) (fun K hK=>?_)
         refine value_ (w1:=?_) (v:=?_) (by rfl) rfl ?_ ?_
         rotate_left 2
         ·go_simp
          constructor
          ·rfl
          ·rfl
         refine hK.out _ _ ⟨(blk_cell (blk_alloc BK228.out _) 0).trans rfl,(blk_cell (blk_alloc BK228.out _) 1).trans rfl,(blk_cell (blk_alloc BK228.out _) 2).trans rfl,(blk_cell (blk_alloc BK228.out _) 3).trans rfl,(blk_cell (blk_alloc BK228.out _) 4).trans rfl,(blk_cell (blk_alloc BK228.out _) 5).trans rfl,(blk_cell (blk_alloc BK231.out _) 0).trans rfl,(blk_cell (blk_alloc BK231.out _) 1).trans rfl,(blk_cell (blk_alloc BK231.out _) 2).trans rfl,(blk_cell (blk_alloc BK231.out _) 3).trans rfl,(blk_cell (blk_alloc BK231.out _) 4).trans rfl,(blk_cell (blk_alloc BK231.out _) 5).trans rfl,(blk_cell (blk_alloc BK231.out _) 6).trans rfl⟩ (fun hHeld=>?_)
         clear hK K
         refine norm_ (a':=?_) ?_ ?_
         rotate_left
         ·show Act.put _ (some 29) _=_
          simp only [Act.put,List.setIfInBounds_toArray,List.set_cons_zero,List.set_cons_succ,i64_w,i32_w]
          rfl
         refine one_ (i:=5) (N:=some 30) #[true,true,true,true,true,true,false,false] rfl rfl (one_of HT_.out (by kernel_rfl)) (by decide) (fun K hK=>?_)
         refine Kd.S_append_step k57s (w0:=w) w.heap.size (by rfl) (.tmp 26) (.tmp 29) 37 57 (.agg #[(.int .i64 0),(.int .i64 0),(.bool false),(.slice none 0 0),(.bool false),(.slice none 0 0)]) 80 rfl Try.underlying37 info57 rfl (by decide) (by omega) u229005 x229005_1 (⟨t233,t234,t235,t236,t239,t240⟩ : S57) [.int .i64 t233,.int .i64 t234,.bool t235,.slice Ao25 t236.length co25,.bool t239,.slice Ao26 t240.length co26] (fun _=>True) (fun k_=>some k_=(.slice Ao25 t236.length co25 : Value).ownBlock ∨ some k_=(.slice Ao26 t240.length co26 : Value).ownBlock) rfl rfl ?aP (fun k_ hk_=>hk_.elim (fun h_=>((Kd.R_mono (ok':=fun k_=>((fun _=>True)) k_∧some k_ ≠ (u229005 : Value).ownBlock) (Kd.R_apart' (HO238.out) (Kd.S_typed HO_229005.out) (by decide)) (fun k_ hk=>⟨trivial,hk.2⟩))).1 k_ h_.symm) (fun h_=>((Kd.R_mono (ok':=fun k_=>((fun _=>True)) k_∧some k_ ≠ (u229005 : Value).ownBlock) (Kd.R_apart' (HO242.out) (Kd.S_typed HO_229005.out) (by decide)) (fun k_ hk=>⟨trivial,hk.2⟩))).1 k_ h_.symm)) ?aF ?aO ?aB ?aS ?aL ?_
         (case aP=>exact k57s_mk (k57_mkM _ _ _ (⟨t233,t234,t235,t236,t239,t240⟩ : S57) (Kd.R_mono (Kd.R_tight rfl (Kd.R_mono (ok':=fun k_=>((fun _=>True)) k_∧some k_ ≠ (u229005 : Value).ownBlock) (Kd.R_apart' (HO238.out) (Kd.S_typed HO_229005.out) (by decide)) (fun k_ hk=>⟨trivial,hk.2⟩))) (fun _ h_=>Or.inl h_)) (Kd.R_mono (Kd.R_tight rfl (Kd.R_mono (ok':=fun k_=>((fun _=>True)) k_∧some k_ ≠ (u229005 : Value).ownBlock) (Kd.R_apart' (HO242.out) (Kd.S_typed HO_229005.out) (by decide)) (fun k_ hk=>⟨trivial,hk.2⟩))) (fun _ h_=>Or.inr (h_)))) (by intro k_ h3_ h4_;first|(cases h3_;done)|(have hh_:=HO238.out.1 k_ h3_;first|exact hh_ h4_.symm|exact hh_.1 h4_.symm|exact hh_.2 h4_.symm|exact hh_.1.1 h4_.symm|exact hh_.1.2 h4_.symm|exact hh_.1.1.1 h4_.symm|exact hh_.1.1.2 h4_.symm)|(have hh_:=HO_229005.out.1 k_ h3_;first|exact hh_ h4_.symm|exact hh_.1 h4_.symm|exact hh_.2 h4_.symm|exact hh_.1.1 h4_.symm|exact hh_.1.2 h4_.symm|exact hh_.1.1.1 h4_.symm|exact hh_.1.1.2 h4_.symm)|(have hh_:=HO242.out.1 k_ h3_;first|exact hh_ h4_.symm|exact hh_.1 h4_.symm|exact hh_.2 h4_.symm|exact hh_.1.1 h4_.symm|exact hh_.1.2 h4_.symm|exact hh_.1.1.1 h4_.symm|exact hh_.1.1.2 h4_.symm)))
         (case aB=>exact (by repeat (first|(with_reducible first|exact HB.out|apply below_alloc|apply pw_below_drewN|apply below_drew1|refine below_set ?_ GE227.out|refine below_set ?_ GE228.out|refine below_set ?_ GE231.out)|exact HB.out)))
         (case aF=>exact (fun _ _=>trivial))
         (case aO=>exact (by (with_reducible repeat (first|apply Kd.S_alloc|apply Kd.S_drewN|apply Kd.S_drew));exact Kd.S_mono HO_229005.out (fun k_ hk=>⟨trivial,fun e_=>e_.elim (fun h_=>hk.1.2 h_) (fun h_=>hk.2 h_)⟩)))
         (case aS=>exact (below_size (by repeat (first|(with_reducible first|exact HB.out|apply below_alloc|apply pw_below_drewN|apply below_drew1|refine below_set ?_ GE227.out|refine below_set ?_ GE228.out|refine below_set ?_ GE231.out)|exact HB.out))))
         (case aL=>have:=LMc16.out;omega)
         intro v244 w24 ho hb hg hat
         rw [← Ny243.out] at ho
         have n0_:=Aside0.mk (blk_grown (g:=gb227) (o:=.cells #[.bool x228000_1,.bool x228001_1,.int .i64 x228002_1,.int .i64 x228003_1,.int .i64 x228004_1,.slice none 0 0] 39 (0,0)) (by (with_reducible repeat (first|refine blk_drewN ?_ _|refine blk_drew ?_|refine blk_alloc ?_ _));exact BK227.out) hg (Kd.S_ne HO_229005.out BK227.out (by decide)))
         have n1_:=Aside0.mk (blk_grown (g:=gb228) (o:=.cells #[.bool a1,.bool false,.int .i64 255,.int .i64 0,.int .i64 0,u229005] 39 (0,0)) (by (with_reducible repeat (first|refine blk_drewN ?_ _|refine blk_drew ?_|refine blk_alloc ?_ _));exact BK228.out) hg (Kd.S_ne HO_229005.out BK228.out (by decide)))
         have n2_:=Aside0.mk (blk_grown (g:=gb231) (o:=.cells #[.int .i64 ((rd_T26 l0 x17_1).f0),.bool ((rd_T26 l0 x17_1).f1),.int .i64 ((rd_T26 l0 x17_1).f2),.slice A230_3 ((rd_T26 l0 x17_1).f3).length c230_3,.slice A230_4 ((rd_T26 l0 x17_1).f4).length c230_4,.bool ((rd_T26 l0 x17_1).f5),.bool ((rd_T26 l0 x17_1).f6)] 26 (0,0)) (by (with_reducible repeat (first|refine blk_drewN ?_ _|refine blk_drew ?_|refine blk_alloc ?_ _));exact BK231.out) hg (Kd.S_ne HO_229005.out BK231.out (by decide)))
         have n3_:=Aside0.mk (hb)
         have n4_:=Aside0.mk (ho)
         clear BK227
         clear BK228
         clear BK231
         clear HB
         clear HO_229005
         clear HO238
         clear HO242
         have BK227:=n0_
         have BK228:=n1_
         have BK231:=n2_
         have HB:=n3_
         have HO245:=n4_
         clear n0_ n1_ n2_ n3_ n4_
         clear ho hb hg hat
         obtain ⟨Ao27,co27,eo27⟩:=Kd.S_slice HO245.out
         (first|subst eo27|(injection eo27 with f1_ f2_ f3_;have f4_:=f1_.symm;have f5_:=f3_.symm;clear f1_ f2_ f3_;subst f4_;subst f5_))
         refine hK.out _ _ ⟨(blk_cell BK228.out 0).trans rfl,(blk_cell BK228.out 1).trans rfl,(blk_cell BK228.out 2).trans rfl,(blk_cell BK228.out 3).trans rfl,(blk_cell BK228.out 4).trans rfl,(blk_cell BK228.out 5).trans rfl,(blk_cell BK231.out 0).trans rfl,(blk_cell BK231.out 1).trans rfl,(blk_cell BK231.out 2).trans rfl,(blk_cell BK231.out 3).trans rfl,(blk_cell BK231.out 4).trans rfl,(blk_cell BK231.out 5).trans rfl,(blk_cell BK231.out 6).trans rfl⟩ (fun hHeld=>?_)
         clear hK K
         refine norm_ (a':=?_) ?_ ?_
         rotate_left
         ·show Act.put _ (some 30) _=_
          simp only [Act.put,List.setIfInBounds_toArray,List.set_cons_zero,List.set_cons_succ,i64_w,i32_w]
          rfl
         refine pure_ (i:=6) (N:=some 31) (v:=?_) (a':=?_) #[true,true,true,true,true,true,true,false] rfl rfl (any_of HT_.out (by kernel_rfl)) (fun _ _ _ h=>h) (Or.inl ⟨by rfl,?_⟩) ?_ ?_
         rotate_left
         ·intro w'
          go_simp
          with_reducible rfl
         rotate_left
         ·simp only [Act.put,List.setIfInBounds_toArray,List.set_cons_zero,List.set_cons_succ,i64_w,i32_w]
          rfl
         refine last_ (i:=7) (N:=none) #[true,true,true,true,true,true,true,true] rfl rfl (one_of HT_.out (by kernel_rfl)) (by decide) (fun K hK=>?_)
         have hs28 : w24.cell? ⟨gb228,5,none⟩ = some (u229005):=(blk_cell BK228.out 5).trans rfl
         have hfs28:=blk_frozen BK228.out 5
         have hns28_0:=NB227_228.out
         have hns28_2:=NB231_228.out
         have hms28_0:=NB228_227.out
         have hms28_2:=NB228_231.out
         refine skip_ (w1:=?_) (by rfl) rfl ?_ ?_
         rotate_left
         ·go_simp
          rfl
         refine hK.out _ _ ?_
         clear hK K
         refine done_ (done_of HT_.out (by kernel_rfl)) ?_
         try go_wp2
         go_roundg k1
         case measure=>have:=HK1.out;omega
         case rel=>exact ⟨(wrap64 (x17_1 + 1)),(x228000_1),(x228001_1),(x228002_1),(x228003_1),(x228004_1),(y243),(.slice Ao27 y243.length co27),(by first|rfl|(simp;done)|(simp [*];done)),H',⟨by have:=HK1.out;omega⟩,⟨by (with_reducible repeat (first|apply Kd.S_alloc|apply Kd.S_drewN|apply Kd.S_drew));exact Kd.S_mono (Kd.S_far (p:=⟨gb228,5,none⟩) (Kd.S_types HO245.out BK228.out (by decide)) (fun _ hk=>hk.2) (.slice Ao27 y243.length co27)) (fun _ hk=>trivial)⟩,⟨by (with_reducible repeat (first|refine blk_drewN ?_ _|refine blk_drew ?_|refine blk_alloc ?_ _));refine blk_far ?_ NB227_228.out _;(with_reducible repeat (first|refine blk_drewN ?_ _|refine blk_drew ?_|refine blk_alloc ?_ _));exact BK227.out⟩,⟨by (with_reducible repeat (first|refine blk_drewN ?_ _|refine blk_drew ?_|refine blk_alloc ?_ _));refine blk_put (cs:=#[.bool a1,.bool false,.int .i64 255,.int .i64 0,.int .i64 0,u229005]) ?_ 5 _ rfl;(with_reducible repeat (first|refine blk_drewN ?_ _|refine blk_drew ?_|refine blk_alloc ?_ _));exact BK228.out⟩,⟨by repeat (first|(with_reducible first|exact HB.out|apply below_alloc|apply pw_below_drewN|apply below_drew1|refine below_set ?_ GE227.out|refine below_set ?_ GE228.out|refine below_set ?_ GE231.out)|exact HB.out)⟩⟩
        ·rw [if_neg c16] at H
         exact absurd H (by simp)
       ·replace c14:=Bool.eq_false_iff.mpr c14
        subst c14
        have H1 : (some (false,false,0,0,0,([] : List (S57)),false))=some (r1,r2,r3,r4,r5,r6,r7):=by rw [if_neg (show ¬ (false=true) by decide)] at H;exact H
        clear H
        have H:=H1
        clear H1
        simp only [Option.some.injEq,Prod.mk.injEq] at H
        obtain ⟨rfl,rfl,rfl,rfl,rfl,rfl,rfl⟩:=H
        have p230 : 0 ≤ (x17_1 : Int):=of_decide_eq_true (by first|(with_reducible assumption)|assumption)
        have q230 : x17_1 < (l0.length : Int):=of_decide_eq_true (by first|(with_reducible assumption)|assumption)
        obtain ⟨ad230,A230_3,c230_3,A230_4,c230_4,e230,hx230_0,hx230_1,hx230_2,hx230_3,hx230_4,hx230_5,hx230_6,hl230_3,hi230_3,hl230_4,hi230_4⟩:=at_T26 HR0.out x17_1 p230 q230
        cases e230
        replace hx230_0:=(HB.out.cell (World.block_lt_of_cell? w _ hx230_0)).trans hx230_0
        replace hx230_1:=(HB.out.cell (World.block_lt_of_cell? w _ hx230_1)).trans hx230_1
        replace hx230_2:=(HB.out.cell (World.block_lt_of_cell? w _ hx230_2)).trans hx230_2
        replace hx230_3:=(HB.out.cell (World.block_lt_of_cell? w _ hx230_3)).trans hx230_3
        replace hx230_4:=(HB.out.cell (World.block_lt_of_cell? w _ hx230_4)).trans hx230_4
        replace hx230_5:=(HB.out.cell (World.block_lt_of_cell? w _ hx230_5)).trans hx230_5
        replace hx230_6:=(HB.out.cell (World.block_lt_of_cell? w _ hx230_6)).trans hx230_6
        have HR230_3:=Aside0.mk hi230_3
        have HC230_3:=Aside0.mk hl230_3
        clear hi230_3 hl230_3
        have HR230_4:=Aside0.mk hi230_4
        have HC230_4:=Aside0.mk hl230_4
        clear hi230_4 hl230_4
        replace p230:=eq_true p230
        replace q230:=eq_true q230
        go_wp2_with (first|((with_reducible refine gate_dst (N:=8) rfl ?_);refine box_event ?hg (N:=8) ?hd (cs:=#[.int .i64 0,.bool false,.int .i64 0,.slice none 0 0,.slice none 0 0,.bool false,.bool false]) (t:=26) ?hr ?_;(case hd=>rfl);(case hg=>rfl);(case hr=>first|(go_simp;done)|(go_simp;rfl));intro gb231 hg w29 hbox hb;have n0_:=Aside0.mk (Kd.S_below (by (with_reducible repeat (first|apply Kd.S_alloc|apply Kd.S_drewN|apply Kd.S_drew));exact HO_229005.out) hb);have n1_:=Aside0.mk (blk_below (g:=gb227) (o:=.cells #[.bool x228000_1,.bool x228001_1,.int .i64 x228002_1,.int .i64 x228003_1,.int .i64 x228004_1,.slice none 0 0] 39 (0,0)) (by (with_reducible repeat (first|refine blk_drewN ?_ _|refine blk_drew ?_|refine blk_alloc ?_ _));exact BK227.out) hb);have n2_:=Aside0.mk (blk_below (g:=gb228) (o:=.cells #[.bool a1,.bool false,.int .i64 255,.int .i64 0,.int .i64 0,u229005] 39 (0,0)) (by (with_reducible repeat (first|refine blk_drewN ?_ _|refine blk_drew ?_|refine blk_alloc ?_ _));exact BK228.out) hb);have n3_:=Aside0.mk (below_step (by repeat (first|(with_reducible first|exact HB.out|apply below_alloc|apply pw_below_drewN|apply below_drew1|refine below_set ?_ GE227.out|refine below_set ?_ GE228.out)|exact HB.out)) hb);have n4_:=Aside0.mk (hbox);have n5_:=Aside0.mk ((by rw [hg];exact (below_size (by repeat (first|(with_reducible first|exact HB.out|apply below_alloc|apply pw_below_drewN|apply below_drew1|refine below_set ?_ GE227.out|refine below_set ?_ GE228.out)|exact HB.out))) : w.heap.size ≤ gb231));have n6_:=Aside0.mk ((by rw [hg];exact (below_size (by repeat (first|(with_reducible first|exact HB.out|apply below_alloc|apply pw_below_drewN|apply below_drew1|refine below_set ?_ GE227.out|refine below_set ?_ GE228.out)|exact HB.out))) : w.heap.size ≤ gb231));have n7_:=Aside0.mk ((by rw [hg];exact Nat.ne_of_lt (blk_lt (g:=gb227) (o:=.cells #[.bool x228000_1,.bool x228001_1,.int .i64 x228002_1,.int .i64 x228003_1,.int .i64 x228004_1,.slice none 0 0] 39 (0,0)) (by (with_reducible repeat (first|refine blk_drewN ?_ _|refine blk_drew ?_|refine blk_alloc ?_ _));exact BK227.out)) : gb227 ≠ gb231));have n8_:=Aside0.mk ((by rw [hg];exact Nat.ne_of_gt (blk_lt (g:=gb227) (o:=.cells #[.bool x228000_1,.bool x228001_1,.int .i64 x228002_1,.int .i64 x228003_1,.int .i64 x228004_1,.slice none 0 0] 39 (0,0)) (by (with_reducible repeat (first|refine blk_drewN ?_ _|refine blk_drew ?_|refine blk_alloc ?_ _));exact BK227.out)) : gb231 ≠ gb227));have n9_:=Aside0.mk ((by rw [hg];exact Nat.ne_of_lt (blk_lt (g:=gb228) (o:=.cells #[.bool a1,.bool false,.int .i64 255,.int .i64 0,.int .i64 0,u229005] 39 (0,0)) (by (with_reducible repeat (first|refine blk_drewN ?_ _|refine blk_drew ?_|refine blk_alloc ?_ _));exact BK228.out)) : gb228 ≠ gb231));have n10_:=Aside0.mk ((by rw [hg];exact Nat.ne_of_gt (blk_lt (g:=gb228) (o:=.cells #[.bool a1,.bool false,.int .i64 255,.int .i64 0,.int .i64 0,u229005] 39 (0,0)) (by (with_reducible repeat (first|refine blk_drewN ?_ _|refine blk_drew ?_|refine blk_alloc ?_ _));exact BK228.out)) : gb231 ≠ gb228));clear HO_229005;clear BK227;clear BK228;clear HB;have HO_229005:=n0_;have BK227:=n1_;have BK228:=n2_;have HB:=n3_;have BK231:=n4_;have GW231:=n5_;have GE231:=n6_;have NB227_231:=n7_;have NB231_227:=n8_;have NB228_231:=n9_;have NB231_228:=n10_;clear n0_ n1_ n2_ n3_ n4_ n5_ n6_ n7_ n8_ n9_ n10_;clear hb hbox hg;have hnb30:=NB231_227.out;have hnc30:=NB227_231.out;have hnb31:=NB231_228.out;have hnc31:=NB228_231.out;have hcz32_0 : w29.cell? ⟨gb231,0,none⟩ = some (.int .i64 0):=(blk_cell BK231.out 0).trans rfl;have hcz32_1 : w29.cell? ⟨gb231,1,none⟩ = some (.bool false):=(blk_cell BK231.out 1).trans rfl;have hcz32_2 : w29.cell? ⟨gb231,2,none⟩ = some (.int .i64 0):=(blk_cell BK231.out 2).trans rfl;have hcz32_3 : w29.cell? ⟨gb231,3,none⟩ = some (.slice none 0 0):=(blk_cell BK231.out 3).trans rfl;have hcz32_4 : w29.cell? ⟨gb231,4,none⟩ = some (.slice none 0 0):=(blk_cell BK231.out 4).trans rfl;have hcz32_5 : w29.cell? ⟨gb231,5,none⟩ = some (.bool false):=(blk_cell BK231.out 5).trans rfl;have hcz32_6 : w29.cell? ⟨gb231,6,none⟩ = some (.bool false):=(blk_cell BK231.out 6).trans rfl;have hfz32_0:=blk_frozen BK231.out 0;have hfz32_1:=blk_frozen BK231.out 1;have hfz32_2:=blk_frozen BK231.out 2;have hfz32_3:=blk_frozen BK231.out 3;have hfz32_4:=blk_frozen BK231.out 4;have hfz32_5:=blk_frozen BK231.out 5;have hfz32_6:=blk_frozen BK231.out 6)|((with_reducible refine gate_callee (f:=20) rfl ?_);refine goesL_ (some 22) rfl rfl Try.func20 (by kernel_rfl) rfl #[.agg #[.int .i64 ((rd_T26 l0 x17_1).f0),.bool ((rd_T26 l0 x17_1).f1),.int .i64 ((rd_T26 l0 x17_1).f2),.slice A230_3 ((rd_T26 l0 x17_1).f3).length c230_3,.slice A230_4 ((rd_T26 l0 x17_1).f4).length c230_4,.bool ((rd_T26 l0 x17_1).f5),.bool ((rd_T26 l0 x17_1).f6)]] rfl (by (try simp only [List.map_toArray,List.map_cons,List.map_nil]);first|done|rfl|(simp only [List.length_drop,List.length_take];rfl)) ?_;(with_reducible refine (impl_OldValid.calls k1 ((rd_T26 l0 x17_1).f0) ((rd_T26 l0 x17_1).f1) ((rd_T26 l0 x17_1).f2) _ _ ((rd_T26 l0 x17_1).f3) _ _ ((rd_T26 l0 x17_1).f4) ((rd_T26 l0 x17_1).f5) ((rd_T26 l0 x17_1).f6) false _ ?side1 ?side2 ?side3 ?side4 A13.out).mono ?_);(case side1=>exact Kd.C_below HR230_3.out (by repeat (first|(with_reducible first|exact HB.out|apply below_alloc|apply pw_below_drewN|apply below_drew1|refine below_set ?_ GE227.out|refine below_set ?_ GE228.out|refine below_set ?_ GE231.out)|exact HB.out)));(case side2=>exact HC230_3.out);(case side3=>exact Kd.C_below HR230_4.out (by repeat (first|(with_reducible first|exact HB.out|apply below_alloc|apply pw_below_drewN|apply below_drew1|refine below_set ?_ GE227.out|refine below_set ?_ GE228.out|refine below_set ?_ GE231.out)|exact HB.out)));(case side4=>exact HC230_4.out);rintro e w33 ⟨rfl,hb⟩;refine ⟨_,rfl,?_⟩;have n0_:=Aside0.mk (Kd.S_below (by (with_reducible repeat (first|apply Kd.S_alloc|apply Kd.S_drewN|apply Kd.S_drew));exact (Kd.S_mono (Kd.S_far (p:=⟨gb231,6,none⟩) (Kd.S_far (p:=⟨gb231,5,none⟩) (Kd.S_far (p:=⟨gb231,4,none⟩) (Kd.S_far (p:=⟨gb231,3,none⟩) (Kd.S_far (p:=⟨gb231,2,none⟩) (Kd.S_far (p:=⟨gb231,1,none⟩) (Kd.S_far (p:=⟨gb231,0,none⟩) (Kd.S_types HO_229005.out BK231.out (by decide)) (fun _ hk=>hk.2) (.int .i64 ((rd_T26 l0 x17_1).f0))) (fun _ hk=>hk.2) (.bool ((rd_T26 l0 x17_1).f1))) (fun _ hk=>hk.2) (.int .i64 ((rd_T26 l0 x17_1).f2))) (fun _ hk=>hk.2) (.slice A230_3 ((rd_T26 l0 x17_1).f3).length c230_3)) (fun _ hk=>hk.2) (.slice A230_4 ((rd_T26 l0 x17_1).f4).length c230_4)) (fun _ hk=>hk.2) (.bool ((rd_T26 l0 x17_1).f5))) (fun _ hk=>hk.2) (.bool ((rd_T26 l0 x17_1).f6))) (fun _ h_=>h_.1))) hb);have n1_:=Aside0.mk (blk_below (g:=gb227) (o:=.cells #[.bool x228000_1,.bool x228001_1,.int .i64 x228002_1,.int .i64 x228003_1,.int .i64 x228004_1,.slice none 0 0] 39 (0,0)) (by (with_reducible repeat (first|refine blk_drewN ?_ _|refine blk_drew ?_|refine blk_alloc ?_ _));refine blk_far ?_ NB227_231.out _;(with_reducible repeat (first|refine blk_drewN ?_ _|refine blk_drew ?_|refine blk_alloc ?_ _));refine blk_far ?_ NB227_231.out _;(with_reducible repeat (first|refine blk_drewN ?_ _|refine blk_drew ?_|refine blk_alloc ?_ _));refine blk_far ?_ NB227_231.out _;(with_reducible repeat (first|refine blk_drewN ?_ _|refine blk_drew ?_|refine blk_alloc ?_ _));refine blk_far ?_ NB227_231.out _;(with_reducible repeat (first|refine blk_drewN ?_ _|refine blk_drew ?_|refine blk_alloc ?_ _));refine blk_far ?_ NB227_231.out _;(with_reducible repeat (first|refine blk_drewN ?_ _|refine blk_drew ?_|refine blk_alloc ?_ _));refine blk_far ?_ NB227_231.out _;(with_reducible repeat (first|refine blk_drewN ?_ _|refine blk_drew ?_|refine blk_alloc ?_ _));refine blk_far ?_ NB227_231.out _;(with_reducible repeat (first|refine blk_drewN ?_ _|refine blk_drew ?_|refine blk_alloc ?_ _));exact BK227.out) hb);have n2_:=Aside0.mk (blk_below (g:=gb228) (o:=.cells #[.bool a1,.bool false,.int .i64 255,.int .i64 0,.int .i64 0,u229005] 39 (0,0)) (by (with_reducible repeat (first|refine blk_drewN ?_ _|refine blk_drew ?_|refine blk_alloc ?_ _));refine blk_far ?_ NB228_231.out _;(with_reducible repeat (first|refine blk_drewN ?_ _|refine blk_drew ?_|refine blk_alloc ?_ _));refine blk_far ?_ NB228_231.out _;(with_reducible repeat (first|refine blk_drewN ?_ _|refine blk_drew ?_|refine blk_alloc ?_ _));refine blk_far ?_ NB228_231.out _;(with_reducible repeat (first|refine blk_drewN ?_ _|refine blk_drew ?_|refine blk_alloc ?_ _));refine blk_far ?_ NB228_231.out _;(with_reducible repeat (first|refine blk_drewN ?_ _|refine blk_drew ?_|refine blk_alloc ?_ _));refine blk_far ?_ NB228_231.out _;(with_reducible repeat (first|refine blk_drewN ?_ _|refine blk_drew ?_|refine blk_alloc ?_ _));refine blk_far ?_ NB228_231.out _;(with_reducible repeat (first|refine blk_drewN ?_ _|refine blk_drew ?_|refine blk_alloc ?_ _));refine blk_far ?_ NB228_231.out _;(with_reducible repeat (first|refine blk_drewN ?_ _|refine blk_drew ?_|refine blk_alloc ?_ _));exact BK228.out) hb);have n3_:=Aside0.mk (blk_below (g:=gb231) (o:=.cells #[.int .i64 ((rd_T26 l0 x17_1).f0),.bool ((rd_T26 l0 x17_1).f1),.int .i64 ((rd_T26 l0 x17_1).f2),.slice A230_3 ((rd_T26 l0 x17_1).f3).length c230_3,.slice A230_4 ((rd_T26 l0 x17_1).f4).length c230_4,.bool ((rd_T26 l0 x17_1).f5),.bool ((rd_T26 l0 x17_1).f6)] 26 (0,0)) (by (with_reducible repeat (first|refine blk_drewN ?_ _|refine blk_drew ?_|refine blk_alloc ?_ _));refine blk_put (cs:=#[.int .i64 ((rd_T26 l0 x17_1).f0),.bool ((rd_T26 l0 x17_1).f1),.int .i64 ((rd_T26 l0 x17_1).f2),.slice A230_3 ((rd_T26 l0 x17_1).f3).length c230_3,.slice A230_4 ((rd_T26 l0 x17_1).f4).length c230_4,.bool ((rd_T26 l0 x17_1).f5),.bool false]) ?_ 6 _ rfl;(with_reducible repeat (first|refine blk_drewN ?_ _|refine blk_drew ?_|refine blk_alloc ?_ _));refine blk_put (cs:=#[.int .i64 ((rd_T26 l0 x17_1).f0),.bool ((rd_T26 l0 x17_1).f1),.int .i64 ((rd_T26 l0 x17_1).f2),.slice A230_3 ((rd_T26 l0 x17_1).f3).length c230_3,.slice A230_4 ((rd_T26 l0 x17_1).f4).length c230_4,.bool false,.bool false]) ?_ 5 _ rfl;(with_reducible repeat (first|refine blk_drewN ?_ _|refine blk_drew ?_|refine blk_alloc ?_ _));refine blk_put (cs:=#[.int .i64 ((rd_T26 l0 x17_1).f0),.bool ((rd_T26 l0 x17_1).f1),.int .i64 ((rd_T26 l0 x17_1).f2),.slice A230_3 ((rd_T26 l0 x17_1).f3).length c230_3,.slice none 0 0,.bool false,.bool false]) ?_ 4 _ rfl;(with_reducible repeat (first|refine blk_drewN ?_ _|refine blk_drew ?_|refine blk_alloc ?_ _));refine blk_put (cs:=#[.int .i64 ((rd_T26 l0 x17_1).f0),.bool ((rd_T26 l0 x17_1).f1),.int .i64 ((rd_T26 l0 x17_1).f2),.slice none 0 0,.slice none 0 0,.bool false,.bool false]) ?_ 3 _ rfl;(with_reducible repeat (first|refine blk_drewN ?_ _|refine blk_drew ?_|refine blk_alloc ?_ _));refine blk_put (cs:=#[.int .i64 ((rd_T26 l0 x17_1).f0),.bool ((rd_T26 l0 x17_1).f1),.int .i64 0,.slice none 0 0,.slice none 0 0,.bool false,.bool false]) ?_ 2 _ rfl;(with_reducible repeat (first|refine blk_drewN ?_ _|refine blk_drew ?_|refine blk_alloc ?_ _));refine blk_put (cs:=#[.int .i64 ((rd_T26 l0 x17_1).f0),.bool false,.int .i64 0,.slice none 0 0,.slice none 0 0,.bool false,.bool false]) ?_ 1 _ rfl;(with_reducible repeat (first|refine blk_drewN ?_ _|refine blk_drew ?_|refine blk_alloc ?_ _));refine blk_put (cs:=#[.int .i64 0,.bool false,.int .i64 0,.slice none 0 0,.slice none 0 0,.bool false,.bool false]) ?_ 0 _ rfl;(with_reducible repeat (first|refine blk_drewN ?_ _|refine blk_drew ?_|refine blk_alloc ?_ _));exact BK231.out) hb);have n4_:=Aside0.mk (below_step (by repeat (first|(with_reducible first|exact HB.out|apply below_alloc|apply pw_below_drewN|apply below_drew1|refine below_set ?_ GE227.out|refine below_set ?_ GE228.out|refine below_set ?_ GE231.out)|exact HB.out)) hb);clear HO_229005;clear BK227;clear BK228;clear BK231;clear HB;have HO_229005:=n0_;have BK227:=n1_;have BK228:=n2_;have BK231:=n3_;have HB:=n4_;clear n0_ n1_ n2_ n3_ n4_;(try clear hb);(try clear hb2);(try clear hk);(try clear hi);have hnb34:=NB227_228.out;have hnc34:=NB228_227.out;have hcz35_0 : w33.cell? ⟨gb227,0,none⟩ = some (.bool x228000_1):=(blk_cell BK227.out 0).trans rfl;have hcz35_1 : w33.cell? ⟨gb227,1,none⟩ = some (.bool x228001_1):=(blk_cell BK227.out 1).trans rfl;have hcz35_2 : w33.cell? ⟨gb227,2,none⟩ = some (.int .i64 x228002_1):=(blk_cell BK227.out 2).trans rfl;have hcz35_3 : w33.cell? ⟨gb227,3,none⟩ = some (.int .i64 x228003_1):=(blk_cell BK227.out 3).trans rfl;have hcz35_4 : w33.cell? ⟨gb227,4,none⟩ = some (.int .i64 x228004_1):=(blk_cell BK227.out 4).trans rfl;have hcz35_5 : w33.cell? ⟨gb227,5,none⟩ = some (.slice none 0 0):=(blk_cell BK227.out 5).trans rfl;have hfz35_0:=blk_frozen BK227.out 0;have hfz35_1:=blk_frozen BK227.out 1;have hfz35_2:=blk_frozen BK227.out 2;have hfz35_3:=blk_frozen BK227.out 3;have hfz35_4:=blk_frozen BK227.out 4;have hfz35_5:=blk_frozen BK227.out 5))
        refine bodyPost_ret (results_ct rfl _ _ gb227 39 #[.bool false,.bool false,.int .i64 0,.int .i64 0,.int .i64 0,.slice none 0 0] (0,0) _ rfl (by (with_reducible repeat (first|refine blk_drewN ?_ _|refine blk_drew ?_|refine blk_alloc ?_ _));refine blk_put (cs:=#[.bool false,.bool false,.int .i64 0,.int .i64 0,.int .i64 0,.slice none 0 0]) ?_ 5 _ rfl;(with_reducible repeat (first|refine blk_drewN ?_ _|refine blk_drew ?_|refine blk_alloc ?_ _));refine blk_put (cs:=#[.bool false,.bool false,.int .i64 0,.int .i64 0,.int .i64 x228004_1,.slice none 0 0]) ?_ 4 _ rfl;(with_reducible repeat (first|refine blk_drewN ?_ _|refine blk_drew ?_|refine blk_alloc ?_ _));refine blk_put (cs:=#[.bool false,.bool false,.int .i64 0,.int .i64 x228003_1,.int .i64 x228004_1,.slice none 0 0]) ?_ 3 _ rfl;(with_reducible repeat (first|refine blk_drewN ?_ _|refine blk_drew ?_|refine blk_alloc ?_ _));refine blk_put (cs:=#[.bool false,.bool false,.int .i64 x228002_1,.int .i64 x228003_1,.int .i64 x228004_1,.slice none 0 0]) ?_ 2 _ rfl;(with_reducible repeat (first|refine blk_drewN ?_ _|refine blk_drew ?_|refine blk_alloc ?_ _));refine blk_put (cs:=#[.bool false,.bool x228001_1,.int .i64 x228002_1,.int .i64 x228003_1,.int .i64 x228004_1,.slice none 0 0]) ?_ 1 _ rfl;(with_reducible repeat (first|refine blk_drewN ?_ _|refine blk_drew ?_|refine blk_alloc ?_ _));refine blk_put (cs:=#[.bool x228000_1,.bool x228001_1,.int .i64 x228002_1,.int .i64 x228003_1,.int .i64 x228004_1,.slice none 0 0]) ?_ 0 _ rfl;(with_reducible repeat (first|refine blk_drewN ?_ _|refine blk_drew ?_|refine blk_alloc ?_ _));exact BK227.out) Try.underlying39 rfl (by kernel_rfl)) rfl ?_
        exact ⟨_,by first|rfl|(simp [errW_none,errW_some] <;> rfl)|(simp [*,errW_none,errW_some] <;> rfl),by first|exact Kd.S_nil _ _ _ _ _|exact Kd.N_nil _ _ _ _ _|exact Kd.V_nil _ _ _ _ _|exact Kd.Q_nil _ _ _ _ _|exact Kd.R_nil _ _ _ _ _,by repeat (first|(with_reducible first|exact HB.out|apply below_alloc|apply pw_below_drewN|apply below_drew1|refine below_set ?_ GE227.out|refine below_set ?_ GE228.out|refine below_set ?_ GE231.out)|exact HB.out)⟩
      ·rw [if_neg c12] at H
       exact absurd H (by simp)
     ·rw [if_neg c11] at H
      exact absurd H (by simp)
    ·rw [if_neg c10] at H
     have c10b0 : decide (x17_1 < (l0.length : Int))=false:=decide_eq_false c10
     clear c10
     replace H:=Option.bind_eq_some_iff.mp H
     obtain ⟨t229,A360,H⟩:=H
     replace H : (if t229=true then (some (a1,false,255,0,0,x229005_1,true)) else (some (false,false,0,0,0,([] : List (S57)),false)))=some (r1,r2,r3,r4,r5,r6,r7):=H
     have A36:=Aside0.mk A360
     clear A360
     by_cases c37 : t229=true
     ·subst c37
      have H1 : (some (a1,false,255,0,0,x229005_1,true))=some (r1,r2,r3,r4,r5,r6,r7):=by rw [if_pos rfl] at H;exact H
      clear H
      have H:=H1
      clear H1
      simp only [Option.some.injEq,Prod.mk.injEq] at H
      obtain ⟨rfl,rfl,rfl,rfl,rfl,rfl,rfl⟩:=H
      have hnb38:=NB228_227.out
      have hnc38:=NB227_228.out
      have hcz39_0 : wr.cell? ⟨gb228,0,none⟩ = some (.bool a1):=(blk_cell BK228.out 0).trans rfl
      have hcz39_1 : wr.cell? ⟨gb228,1,none⟩ = some (.bool false):=(blk_cell BK228.out 1).trans rfl
      have hcz39_2 : wr.cell? ⟨gb228,2,none⟩ = some (.int .i64 255):=(blk_cell BK228.out 2).trans rfl
      have hcz39_3 : wr.cell? ⟨gb228,3,none⟩ = some (.int .i64 0):=(blk_cell BK228.out 3).trans rfl
      have hcz39_4 : wr.cell? ⟨gb228,4,none⟩ = some (.int .i64 0):=(blk_cell BK228.out 4).trans rfl
      have hcz39_5 : wr.cell? ⟨gb228,5,none⟩ = some (u229005):=(blk_cell BK228.out 5).trans rfl
      have hfz39_0:=blk_frozen BK228.out 0
      have hfz39_1:=blk_frozen BK228.out 1
      have hfz39_2:=blk_frozen BK228.out 2
      have hfz39_3:=blk_frozen BK228.out 3
      have hfz39_4:=blk_frozen BK228.out 4
      have hfz39_5:=blk_frozen BK228.out 5
      obtain ⟨Ao40,co40,eo40⟩:=Kd.S_slice HO_229005.out
      subst eo40
      go_wp2_with (first|((with_reducible refine gate_callee (f:=38) rfl ?_);refine goesL_ (some 34) rfl rfl Try.func38 (by kernel_rfl) rfl #[.agg #[.bool a1,.bool false,.int .i64 255,.int .i64 0,.int .i64 0,.slice Ao40 x229005_1.length co40]] rfl (by (try simp only [List.map_toArray,List.map_cons,List.map_nil]);first|done|rfl|(simp only [List.length_drop,List.length_take];rfl)) ?_;(with_reducible refine (impl_BatchValid.calls k1 a1 false 255 0 0 _ _ x229005_1 true _ ?side1 ?side2 A36.out).mono ?_);(case side1=>repeat (first|exact (Kd.S_reads' HO_229005.out).2.2|(with_reducible refine Kd.C_alloc ?_ _)|(with_reducible refine Kd.C_drewN ?_ _)|(with_reducible refine Kd.C_drew ?_)));(case side2=>exact (Kd.S_reads' HO_229005.out).2.1);rintro e w41 ⟨rfl,hb⟩;refine ⟨_,rfl,?_⟩;have n0_:=Aside0.mk (Kd.S_below (by (with_reducible repeat (first|apply Kd.S_alloc|apply Kd.S_drewN|apply Kd.S_drew));exact HO_229005.out) hb);have n1_:=Aside0.mk (blk_below (g:=gb227) (o:=.cells #[.bool x228000_1,.bool x228001_1,.int .i64 x228002_1,.int .i64 x228003_1,.int .i64 x228004_1,.slice none 0 0] 39 (0,0)) (by (with_reducible repeat (first|refine blk_drewN ?_ _|refine blk_drew ?_|refine blk_alloc ?_ _));exact BK227.out) hb);have n2_:=Aside0.mk (blk_below (g:=gb228) (o:=.cells #[.bool a1,.bool false,.int .i64 255,.int .i64 0,.int .i64 0,.slice Ao40 x229005_1.length co40] 39 (0,0)) (by (with_reducible repeat (first|refine blk_drewN ?_ _|refine blk_drew ?_|refine blk_alloc ?_ _));exact BK228.out) hb);have n3_:=Aside0.mk (below_step (by repeat (first|(with_reducible first|exact HB.out|apply below_alloc|apply pw_below_drewN|apply below_drew1|refine below_set ?_ GE227.out|refine below_set ?_ GE228.out)|exact HB.out)) hb);clear HO_229005;clear BK227;clear BK228;clear HB;have HO_229005:=n0_;have BK227:=n1_;have BK228:=n2_;have HB:=n3_;clear n0_ n1_ n2_ n3_;(try clear hb);(try clear hb2);(try clear hk);(try clear hi);have hcz42_0 : w41.cell? ⟨gb228,0,none⟩ = some (.bool a1):=(blk_cell BK228.out 0).trans rfl;have hcz42_1 : w41.cell? ⟨gb228,1,none⟩ = some (.bool false):=(blk_cell BK228.out 1).trans rfl;have hcz42_2 : w41.cell? ⟨gb228,2,none⟩ = some (.int .i64 255):=(blk_cell BK228.out 2).trans rfl;have hcz42_3 : w41.cell? ⟨gb228,3,none⟩ = some (.int .i64 0):=(blk_cell BK228.out 3).trans rfl;have hcz42_4 : w41.cell? ⟨gb228,4,none⟩ = some (.int .i64 0):=(blk_cell BK228.out 4).trans rfl;have hcz42_5 : w41.cell? ⟨gb228,5,none⟩ = some (.slice Ao40 x229005_1.length co40):=(blk_cell BK228.out 5).trans rfl;have hfz42_0:=blk_frozen BK228.out 0;have hfz42_1:=blk_frozen BK228.out 1;have hfz42_2:=blk_frozen BK228.out 2;have hfz42_3:=blk_frozen BK228.out 3;have hfz42_4:=blk_frozen BK228.out 4;have hfz42_5:=blk_frozen BK228.out 5;have hcz43_0 : w41.cell? ⟨gb227,0,none⟩ = some (.bool x228000_1):=(blk_cell BK227.out 0).trans rfl;have hcz43_1 : w41.cell? ⟨gb227,1,none⟩ = some (.bool x228001_1):=(blk_cell BK227.out 1).trans rfl;have hcz43_2 : w41.cell? ⟨gb227,2,none⟩ = some (.int .i64 x228002_1):=(blk_cell BK227.out 2).trans rfl;have hcz43_3 : w41.cell? ⟨gb227,3,none⟩ = some (.int .i64 x228003_1):=(blk_cell BK227.out 3).trans rfl;have hcz43_4 : w41.cell? ⟨gb227,4,none⟩ = some (.int .i64 x228004_1):=(blk_cell BK227.out 4).trans rfl;have hcz43_5 : w41.cell? ⟨gb227,5,none⟩ = some (.slice none 0 0):=(blk_cell BK227.out 5).trans rfl;have hfz43_0:=blk_frozen BK227.out 0;have hfz43_1:=blk_frozen BK227.out 1;have hfz43_2:=blk_frozen BK227.out 2;have hfz43_3:=blk_frozen BK227.out 3;have hfz43_4:=blk_frozen BK227.out 4;have hfz43_5:=blk_frozen BK227.out 5))
      refine bodyPost_ret (results_ct rfl _ _ gb227 39 #[.bool a1,.bool false,.int .i64 255,.int .i64 0,.int .i64 0,.slice Ao40 x229005_1.length co40] (0,0) _ rfl (by (with_reducible repeat (first|refine blk_drewN ?_ _|refine blk_drew ?_|refine blk_alloc ?_ _));refine blk_put (cs:=#[.bool a1,.bool false,.int .i64 255,.int .i64 0,.int .i64 0,.slice none 0 0]) ?_ 5 _ rfl;(with_reducible repeat (first|refine blk_drewN ?_ _|refine blk_drew ?_|refine blk_alloc ?_ _));refine blk_put (cs:=#[.bool a1,.bool false,.int .i64 255,.int .i64 0,.int .i64 x228004_1,.slice none 0 0]) ?_ 4 _ rfl;(with_reducible repeat (first|refine blk_drewN ?_ _|refine blk_drew ?_|refine blk_alloc ?_ _));refine blk_put (cs:=#[.bool a1,.bool false,.int .i64 255,.int .i64 x228003_1,.int .i64 x228004_1,.slice none 0 0]) ?_ 3 _ rfl;(with_reducible repeat (first|refine blk_drewN ?_ _|refine blk_drew ?_|refine blk_alloc ?_ _));refine blk_put (cs:=#[.bool a1,.bool false,.int .i64 x228002_1,.int .i64 x228003_1,.int .i64 x228004_1,.slice none 0 0]) ?_ 2 _ rfl;(with_reducible repeat (first|refine blk_drewN ?_ _|refine blk_drew ?_|refine blk_alloc ?_ _));refine blk_put (cs:=#[.bool a1,.bool x228001_1,.int .i64 x228002_1,.int .i64 x228003_1,.int .i64 x228004_1,.slice none 0 0]) ?_ 1 _ rfl;(with_reducible repeat (first|refine blk_drewN ?_ _|refine blk_drew ?_|refine blk_alloc ?_ _));refine blk_put (cs:=#[.bool x228000_1,.bool x228001_1,.int .i64 x228002_1,.int .i64 x228003_1,.int .i64 x228004_1,.slice none 0 0]) ?_ 0 _ rfl;(with_reducible repeat (first|refine blk_drewN ?_ _|refine blk_drew ?_|refine blk_alloc ?_ _));exact BK227.out) Try.underlying39 rfl (by kernel_rfl)) rfl ?_
      exact ⟨_,by first|rfl|(simp [errW_none,errW_some] <;> rfl)|(simp [*,errW_none,errW_some] <;> rfl),by (with_reducible repeat (first|apply Kd.S_alloc|apply Kd.S_drewN|apply Kd.S_drew));exact Kd.S_mono (Kd.S_far (p:=⟨gb227,5,none⟩) (Kd.S_far (p:=⟨gb227,4,none⟩) (Kd.S_far (p:=⟨gb227,3,none⟩) (Kd.S_far (p:=⟨gb227,2,none⟩) (Kd.S_far (p:=⟨gb227,1,none⟩) (Kd.S_far (p:=⟨gb227,0,none⟩) (Kd.S_types HO_229005.out BK227.out (by decide)) (fun _ hk=>hk.2) (.bool a1)) (fun _ hk=>hk.2) (.bool false)) (fun _ hk=>hk.2) (.int .i64 255)) (fun _ hk=>hk.2) (.int .i64 0)) (fun _ hk=>hk.2) (.int .i64 0)) (fun _ hk=>hk.2) (.slice Ao40 x229005_1.length co40)) (fun _ hk=>trivial),by repeat (first|(with_reducible first|exact HB.out|apply below_alloc|apply pw_below_drewN|apply below_drew1|refine below_set ?_ GE227.out|refine below_set ?_ GE228.out)|exact HB.out)⟩
     ·replace c37:=Bool.eq_false_iff.mpr c37
      subst c37
      have H1 : (some (false,false,0,0,0,([] : List (S57)),false))=some (r1,r2,r3,r4,r5,r6,r7):=by rw [if_neg (show ¬ (false=true) by decide)] at H;exact H
      clear H
      have H:=H1
      clear H1
      simp only [Option.some.injEq,Prod.mk.injEq] at H
      obtain ⟨rfl,rfl,rfl,rfl,rfl,rfl,rfl⟩:=H
      have hnb44:=NB228_227.out
      have hnc44:=NB227_228.out
      have hcz45_0 : wr.cell? ⟨gb228,0,none⟩ = some (.bool a1):=(blk_cell BK228.out 0).trans rfl
      have hcz45_1 : wr.cell? ⟨gb228,1,none⟩ = some (.bool false):=(blk_cell BK228.out 1).trans rfl
      have hcz45_2 : wr.cell? ⟨gb228,2,none⟩ = some (.int .i64 255):=(blk_cell BK228.out 2).trans rfl
      have hcz45_3 : wr.cell? ⟨gb228,3,none⟩ = some (.int .i64 0):=(blk_cell BK228.out 3).trans rfl
      have hcz45_4 : wr.cell? ⟨gb228,4,none⟩ = some (.int .i64 0):=(blk_cell BK228.out 4).trans rfl
      have hcz45_5 : wr.cell? ⟨gb228,5,none⟩ = some (u229005):=(blk_cell BK228.out 5).trans rfl
      have hfz45_0:=blk_frozen BK228.out 0
      have hfz45_1:=blk_frozen BK228.out 1
      have hfz45_2:=blk_frozen BK228.out 2
      have hfz45_3:=blk_frozen BK228.out 3
      have hfz45_4:=blk_frozen BK228.out 4
      have hfz45_5:=blk_frozen BK228.out 5
      obtain ⟨Ao46,co46,eo46⟩:=Kd.S_slice HO_229005.out
      subst eo46
      go_wp2_with (first|((with_reducible refine gate_callee (f:=38) rfl ?_);refine goesL_ (some 34) rfl rfl Try.func38 (by kernel_rfl) rfl #[.agg #[.bool a1,.bool false,.int .i64 255,.int .i64 0,.int .i64 0,.slice Ao46 x229005_1.length co46]] rfl (by (try simp only [List.map_toArray,List.map_cons,List.map_nil]);first|done|rfl|(simp only [List.length_drop,List.length_take];rfl)) ?_;(with_reducible refine (impl_BatchValid.calls k1 a1 false 255 0 0 _ _ x229005_1 false _ ?side1 ?side2 A36.out).mono ?_);(case side1=>repeat (first|exact (Kd.S_reads' HO_229005.out).2.2|(with_reducible refine Kd.C_alloc ?_ _)|(with_reducible refine Kd.C_drewN ?_ _)|(with_reducible refine Kd.C_drew ?_)));(case side2=>exact (Kd.S_reads' HO_229005.out).2.1);rintro e w47 ⟨rfl,hb⟩;refine ⟨_,rfl,?_⟩;have n0_:=Aside0.mk (Kd.S_below (by (with_reducible repeat (first|apply Kd.S_alloc|apply Kd.S_drewN|apply Kd.S_drew));exact HO_229005.out) hb);have n1_:=Aside0.mk (blk_below (g:=gb227) (o:=.cells #[.bool x228000_1,.bool x228001_1,.int .i64 x228002_1,.int .i64 x228003_1,.int .i64 x228004_1,.slice none 0 0] 39 (0,0)) (by (with_reducible repeat (first|refine blk_drewN ?_ _|refine blk_drew ?_|refine blk_alloc ?_ _));exact BK227.out) hb);have n2_:=Aside0.mk (blk_below (g:=gb228) (o:=.cells #[.bool a1,.bool false,.int .i64 255,.int .i64 0,.int .i64 0,.slice Ao46 x229005_1.length co46] 39 (0,0)) (by (with_reducible repeat (first|refine blk_drewN ?_ _|refine blk_drew ?_|refine blk_alloc ?_ _));exact BK228.out) hb);have n3_:=Aside0.mk (below_step (by repeat (first|(with_reducible first|exact HB.out|apply below_alloc|apply pw_below_drewN|apply below_drew1|refine below_set ?_ GE227.out|refine below_set ?_ GE228.out)|exact HB.out)) hb);clear HO_229005;clear BK227;clear BK228;clear HB;have HO_229005:=n0_;have BK227:=n1_;have BK228:=n2_;have HB:=n3_;clear n0_ n1_ n2_ n3_;(try clear hb);(try clear hb2);(try clear hk);(try clear hi);have hcz48_0 : w47.cell? ⟨gb227,0,none⟩ = some (.bool x228000_1):=(blk_cell BK227.out 0).trans rfl;have hcz48_1 : w47.cell? ⟨gb227,1,none⟩ = some (.bool x228001_1):=(blk_cell BK227.out 1).trans rfl;have hcz48_2 : w47.cell? ⟨gb227,2,none⟩ = some (.int .i64 x228002_1):=(blk_cell BK227.out 2).trans rfl;have hcz48_3 : w47.cell? ⟨gb227,3,none⟩ = some (.int .i64 x228003_1):=(blk_cell BK227.out 3).trans rfl;have hcz48_4 : w47.cell? ⟨gb227,4,none⟩ = some (.int .i64 x228004_1):=(blk_cell BK227.out 4).trans rfl;have hcz48_5 : w47.cell? ⟨gb227,5,none⟩ = some (.slice none 0 0):=(blk_cell BK227.out 5).trans rfl;have hfz48_0:=blk_frozen BK227.out 0;have hfz48_1:=blk_frozen BK227.out 1;have hfz48_2:=blk_frozen BK227.out 2;have hfz48_3:=blk_frozen BK227.out 3;have hfz48_4:=blk_frozen BK227.out 4;have hfz48_5:=blk_frozen BK227.out 5))
      refine bodyPost_ret (results_ct rfl _ _ gb227 39 #[.bool false,.bool false,.int .i64 0,.int .i64 0,.int .i64 0,.slice none 0 0] (0,0) _ rfl (by (with_reducible repeat (first|refine blk_drewN ?_ _|refine blk_drew ?_|refine blk_alloc ?_ _));refine blk_put (cs:=#[.bool false,.bool false,.int .i64 0,.int .i64 0,.int .i64 0,.slice none 0 0]) ?_ 5 _ rfl;(with_reducible repeat (first|refine blk_drewN ?_ _|refine blk_drew ?_|refine blk_alloc ?_ _));refine blk_put (cs:=#[.bool false,.bool false,.int .i64 0,.int .i64 0,.int .i64 x228004_1,.slice none 0 0]) ?_ 4 _ rfl;(with_reducible repeat (first|refine blk_drewN ?_ _|refine blk_drew ?_|refine blk_alloc ?_ _));refine blk_put (cs:=#[.bool false,.bool false,.int .i64 0,.int .i64 x228003_1,.int .i64 x228004_1,.slice none 0 0]) ?_ 3 _ rfl;(with_reducible repeat (first|refine blk_drewN ?_ _|refine blk_drew ?_|refine blk_alloc ?_ _));refine blk_put (cs:=#[.bool false,.bool false,.int .i64 x228002_1,.int .i64 x228003_1,.int .i64 x228004_1,.slice none 0 0]) ?_ 2 _ rfl;(with_reducible repeat (first|refine blk_drewN ?_ _|refine blk_drew ?_|refine blk_alloc ?_ _));refine blk_put (cs:=#[.bool false,.bool x228001_1,.int .i64 x228002_1,.int .i64 x228003_1,.int .i64 x228004_1,.slice none 0 0]) ?_ 1 _ rfl;(with_reducible repeat (first|refine blk_drewN ?_ _|refine blk_drew ?_|refine blk_alloc ?_ _));refine blk_put (cs:=#[.bool x228000_1,.bool x228001_1,.int .i64 x228002_1,.int .i64 x228003_1,.int .i64 x228004_1,.slice none 0 0]) ?_ 0 _ rfl;(with_reducible repeat (first|refine blk_drewN ?_ _|refine blk_drew ?_|refine blk_alloc ?_ _));exact BK227.out) Try.underlying39 rfl (by kernel_rfl)) rfl ?_
      exact ⟨_,by first|rfl|(simp [errW_none,errW_some] <;> rfl)|(simp [*,errW_none,errW_some] <;> rfl),by first|exact Kd.S_nil _ _ _ _ _|exact Kd.N_nil _ _ _ _ _|exact Kd.V_nil _ _ _ _ _|exact Kd.Q_nil _ _ _ _ _|exact Kd.R_nil _ _ _ _ _,by repeat (first|(with_reducible first|exact HB.out|apply below_alloc|apply pw_below_drewN|apply below_drew1|refine below_set ?_ GE227.out|refine below_set ?_ GE228.out)|exact HB.out)⟩

/-! ### laws_eqIntS: function 41 -/
def laws_eqIntS.l0 : Nat→List Int→List Int→Int→Option (Bool)
 | 0,_,_,_=>none
 | k + 1,x0,x1,x5=>if x5 < (x0.length : Int) then (if 0 ≤ x5 then (if x5 < (x1.length : Int) then (if (rd x0 x5)=(rd x1 x5) then (laws_eqIntS.l0 k x0 x1 (wrap64 (x5 + 1))) else (some false)) else (none)) else (none)) else (some true)
def laws_eqIntS.f (k : Nat) (l0 : List Int) (l1 : List Int) : Option (Bool):=if (l0.length : Int)=(l1.length : Int) then (laws_eqIntS.l0 k l0 l1 0) else (some false)
theorem laws_eqIntS.mono_l : ∀ k,(∀ y0 y1 y2,LeO (laws_eqIntS.l0 k y0 y1 y2) (laws_eqIntS.l0 (k + 1) y0 y1 y2))
 | 0=>fun _ _ _ r h=>by simp [laws_eqIntS.l0] at h
 | k + 1=>by
  have ih0:=laws_eqIntS.mono_l k
  ·intro y0 y1 y2
   unfold laws_eqIntS.l0
   repeat' first
   | (with_reducible exact ih0 _ _ _)
   | (with_reducible exact LeO.refl _)
   | (with_reducible exact LeO.none _)
   | (with_reducible refine LeO.ite ?_ ?_)
   | (with_reducible refine LeO.bind ?_ (fun _=>?_))
   | exact ih0 _ _ _
   | exact LeO.none _
   | refine LeO.ite ?_ ?_
   | refine LeO.bind ?_ (fun _=>?_)
theorem laws_eqIntS.mono : ∀ a0 a1 k,LeO (laws_eqIntS.f k a0 a1) (laws_eqIntS.f (k + 1) a0 a1):=by
 intro a0 a1 k
 have ih0:=laws_eqIntS.mono_l k
 unfold laws_eqIntS.f
 repeat' first
   | (with_reducible exact ih0 _ _ _)
   | (with_reducible exact LeO.refl _)
   | (with_reducible exact LeO.none _)
   | (with_reducible refine LeO.ite ?_ ?_)
   | (with_reducible refine LeO.bind ?_ (fun _=>?_))
   | exact ih0 _ _ _
   | exact LeO.none _
   | refine LeO.ite ?_ ?_
   | refine LeO.bind ?_ (fun _=>?_)
set_option maxHeartbeats 8000000 in
set_option maxRecDepth 100000 in
theorem laws_eqIntS.calls (k : Nat) (A0 : Option Addr) (c0 : Nat) (l0 : List Int) (A1 : Option Addr) (c1 : Nat) (l1 : List Int) (r : Bool) (w : World) (hr0 : Kd.C (Kd.int .i64) w A0 l0.length l0) (hc0 : l0.length ≤ c0) (hr1 : Kd.C (Kd.int .i64) w A1 l1.length l1) (hc1 : l1.length ≤ c1) (h : laws_eqIntS.f k l0 l1=some r) :
  Calls Try.prog 41 #[.slice A0 l0.length c0,.slice A1 l1.length c1] w fun e w'=>e = .returned (.bool r)∧Drawn0 w w':=by
 have HR0:=Aside0.mk hr0
 have HC0:=Aside0.mk hc0
 clear hr0 hc0
 have HR1:=Aside0.mk hr1
 have HC1:=Aside0.mk hc1
 clear hr1 hc1
 have H : (if (l0.length : Int)=(l1.length : Int) then (laws_eqIntS.l0 k l0 l1 0) else (some false))=some r:=h
 clear h
 by_cases c3 : (l0.length : Int)=(l1.length : Int)
 ·rw [if_pos c3] at H
  have c3b0 : ((l0.length : Int) == (l1.length : Int))=true:=beq_iff_eq.mpr c3
  have c3b1 : ((l0.length : Int) != (l1.length : Int))=false:=bne_eq_false_iff_eq.mpr c3
  have c3b2 : (l0.length == l1.length)=true:=by first|simpa using c3|(simp at c3 ⊢;omega)
  clear c3
  have H':=Aside0.mk H
  clear H
  go_enter Try.func41,Try.ntmps41
  go_wp2
  repeat (go_quiet (fail);try go_wp2)
  go_loopg [5] k (fun kq v5 w'=>∃ (x5_1 : Int),v5 = .int .i64 x5_1∧Aside0 (laws_eqIntS.l0 kq l0 l1 x5_1=some r)∧Aside0 (kq ≤ k)∧Drawn0 w w')
  case atStart=>exact ⟨(0),(by first|rfl|(simp;done)|(simp [*];done)),H',⟨Nat.le_refl _⟩,by repeat (first|exact Drawn0.refl _|apply Drawn0.step)⟩
  case round =>
   clear H'
   try clear c1
   try clear p2
   try clear c3
   try clear c3b0
   try clear c3b1
   try clear c3b2
   obtain ⟨x5_1,rfl,HA,HK1,⟨m1,rfl⟩⟩:=hrel
   cases gk with
   | zero=>exact absurd HA.out (by simp [laws_eqIntS.l0])
   | succ k1 =>
    have H:=HA.out
    clear HA
    simp only [laws_eqIntS.l0] at H
    by_cases c4 : x5_1 < (l0.length : Int)
    ·rw [if_pos c4] at H
     have c4b0 : decide (x5_1 < (l0.length : Int))=true:=decide_eq_true c4
     clear c4
     by_cases c5 : 0 ≤ x5_1
     ·rw [if_pos c5] at H
      have c5b0 : decide (0 ≤ x5_1)=true:=decide_eq_true c5
      clear c5
      by_cases c6 : x5_1 < (l1.length : Int)
      ·rw [if_pos c6] at H
       have c6b0 : decide (x5_1 < (l1.length : Int))=true:=decide_eq_true c6
       clear c6
       by_cases c7 : (rd l0 x5_1)=(rd l1 x5_1)
       ·rw [if_pos c7] at H
        have c7b0 : ((rd l0 x5_1) == (rd l1 x5_1))=true:=beq_iff_eq.mpr c7
        have c7b1 : ((rd l0 x5_1) != (rd l1 x5_1))=false:=bne_eq_false_iff_eq.mpr c7
        clear c7
        have H':=Aside0.mk H
        clear H
        have p246 : 0 ≤ (x5_1 : Int):=of_decide_eq_true (by first|(with_reducible assumption)|assumption)
        have q246 : x5_1 < (l0.length : Int):=of_decide_eq_true (by first|(with_reducible assumption)|assumption)
        obtain ⟨ad246,e246,hx246_0⟩:=Kd.at_int HR0.out x5_1 p246 q246
        cases e246
        replace p246:=eq_true p246
        replace q246:=eq_true q246
        have p247 : 0 ≤ (x5_1 : Int):=of_decide_eq_true (by first|(with_reducible assumption)|assumption)
        have q247 : x5_1 < (l1.length : Int):=of_decide_eq_true (by first|(with_reducible assumption)|assumption)
        obtain ⟨ad247,e247,hx247_0⟩:=Kd.at_int HR1.out x5_1 p247 q247
        cases e247
        replace p247:=eq_true p247
        replace q247:=eq_true q247
        go_wp2
        repeat (go_quiet (fail);try go_wp2)
        go_roundg k1
        case measure=>have:=HK1.out;omega
        case rel=>exact ⟨(wrap64 (x5_1 + 1)),(by first|rfl|(simp;done)|(simp [*];done)),H',⟨by have:=HK1.out;omega⟩,by repeat (first|exact Drawn0.refl _|apply Drawn0.step)⟩
       ·rw [if_neg c7] at H
        have c7b0 : ((rd l0 x5_1) == (rd l1 x5_1))=false:=beq_eq_false_iff_ne.mpr c7
        have c7b1 : ((rd l0 x5_1) != (rd l1 x5_1))=true:=bne_iff_ne.mpr c7
        obtain rfl:=Option.some.inj H
        have p246 : 0 ≤ (x5_1 : Int):=of_decide_eq_true (by first|(with_reducible assumption)|assumption)
        have q246 : x5_1 < (l0.length : Int):=of_decide_eq_true (by first|(with_reducible assumption)|assumption)
        obtain ⟨ad246,e246,hx246_0⟩:=Kd.at_int HR0.out x5_1 p246 q246
        cases e246
        replace p246:=eq_true p246
        replace q246:=eq_true q246
        have p247 : 0 ≤ (x5_1 : Int):=of_decide_eq_true (by first|(with_reducible assumption)|assumption)
        have q247 : x5_1 < (l1.length : Int):=of_decide_eq_true (by first|(with_reducible assumption)|assumption)
        obtain ⟨ad247,e247,hx247_0⟩:=Kd.at_int HR1.out x5_1 p247 q247
        cases e247
        replace p247:=eq_true p247
        replace q247:=eq_true q247
        go_wp2
        repeat (go_quiet (fail);try go_wp2)
        go_ret
        exact ⟨by first|rfl|(simp;done)|(simp [*];done),by repeat (first|exact Drawn0.refl _|apply Drawn0.step)⟩
      ·rw [if_neg c6] at H
       exact absurd H (by simp)
     ·rw [if_neg c5] at H
      exact absurd H (by simp)
    ·rw [if_neg c4] at H
     have c4b0 : decide (x5_1 < (l0.length : Int))=false:=decide_eq_false c4
     clear c4
     obtain rfl:=Option.some.inj H
     go_wp2
     repeat (go_quiet (fail);try go_wp2)
     go_ret
     exact ⟨by first|rfl|(simp;done)|(simp [*];done),by repeat (first|exact Drawn0.refl _|apply Drawn0.step)⟩
 ·rw [if_neg c3] at H
  have c3b0 : ((l0.length : Int) == (l1.length : Int))=false:=beq_eq_false_iff_ne.mpr c3
  have c3b1 : ((l0.length : Int) != (l1.length : Int))=true:=bne_iff_ne.mpr c3
  have c3b2 : (l0.length == l1.length)=false:=by first|simpa using c3|(simp at c3 ⊢;omega)
  obtain rfl:=Option.some.inj H
  go_enter Try.func41,Try.ntmps41
  go_wp2
  repeat (go_quiet (fail);try go_wp2)
  go_ret
  exact ⟨by first|rfl|(simp;done)|(simp [*];done),by repeat (first|exact Drawn0.refl _|apply Drawn0.step)⟩

/-! ### laws_eqRecord: function 85 -/
def laws_eqRecord.f (k : Nat) (a0_0 : Int) (a0_1 : Int) (a0_2 : Bool) (l0_3 : List Int) (a0_4 : Bool) (l0_5 : List Int) (a1_0 : Int) (a1_1 : Int) (a1_2 : Bool) (l1_3 : List Int) (a1_4 : Bool) (l1_5 : List Int) : Option (Bool):=if a0_0=a1_0 then (if a0_1=a1_1 then (if (a0_2 != a1_2)=true then (some false) else ((laws_eqIntS.f k l0_3 l1_3).bind fun t250=>(if t250=true then (if (a0_4 != a1_4)=true then (some false) else ((laws_eqIntS.f k l0_5 l1_5).bind fun t251=>(if t251=true then (some true) else (some false)))) else (some false)))) else (some false)) else (some false)
theorem laws_eqRecord.mono : ∀ a0 a1 a2 a3 a4 a5 a6 a7 a8 a9 a10 a11 k,LeO (laws_eqRecord.f k a0 a1 a2 a3 a4 a5 a6 a7 a8 a9 a10 a11) (laws_eqRecord.f (k + 1) a0 a1 a2 a3 a4 a5 a6 a7 a8 a9 a10 a11):=by
 intro a0 a1 a2 a3 a4 a5 a6 a7 a8 a9 a10 a11 k
 unfold laws_eqRecord.f
 repeat' first
   | (with_reducible exact laws_eqIntS.mono _ _ _)
   | (with_reducible exact LeO.refl _)
   | (with_reducible exact LeO.none _)
   | (with_reducible refine LeO.ite ?_ ?_)
   | (with_reducible refine LeO.bind ?_ (fun _=>?_))
   | exact laws_eqIntS.mono _ _ _
   | exact LeO.none _
   | refine LeO.ite ?_ ?_
   | refine LeO.bind ?_ (fun _=>?_)
set_option maxHeartbeats 8000000 in
set_option maxRecDepth 100000 in
theorem laws_eqRecord.calls (k : Nat) (a0_0 : Int) (a0_1 : Int) (a0_2 : Bool) (A0_3 : Option Addr) (c0_3 : Nat) (l0_3 : List Int) (a0_4 : Bool) (A0_5 : Option Addr) (c0_5 : Nat) (l0_5 : List Int) (a1_0 : Int) (a1_1 : Int) (a1_2 : Bool) (A1_3 : Option Addr) (c1_3 : Nat) (l1_3 : List Int) (a1_4 : Bool) (A1_5 : Option Addr) (c1_5 : Nat) (l1_5 : List Int) (r : Bool) (w : World) (hr0_3 : Kd.C (Kd.int .i64) w A0_3 l0_3.length l0_3) (hc0_3 : l0_3.length ≤ c0_3) (hr0_5 : Kd.C (Kd.int .i64) w A0_5 l0_5.length l0_5) (hc0_5 : l0_5.length ≤ c0_5) (hr1_3 : Kd.C (Kd.int .i64) w A1_3 l1_3.length l1_3) (hc1_3 : l1_3.length ≤ c1_3) (hr1_5 : Kd.C (Kd.int .i64) w A1_5 l1_5.length l1_5) (hc1_5 : l1_5.length ≤ c1_5) (h : laws_eqRecord.f k a0_0 a0_1 a0_2 l0_3 a0_4 l0_5 a1_0 a1_1 a1_2 l1_3 a1_4 l1_5=some r) :
  Calls Try.prog 85 #[.agg #[.int .i64 a0_0,.int .i64 a0_1,.bool a0_2,.slice A0_3 l0_3.length c0_3,.bool a0_4,.slice A0_5 l0_5.length c0_5],.agg #[.int .i64 a1_0,.int .i64 a1_1,.bool a1_2,.slice A1_3 l1_3.length c1_3,.bool a1_4,.slice A1_5 l1_5.length c1_5]] w fun e w'=>e = .returned (.bool r)∧Below w.heap.size w w':=by
 have hu57:=Try.underlying57
 have HR0_3:=Aside0.mk hr0_3
 have HC0_3:=Aside0.mk hc0_3
 clear hr0_3 hc0_3
 have HR0_5:=Aside0.mk hr0_5
 have HC0_5:=Aside0.mk hc0_5
 clear hr0_5 hc0_5
 have HR1_3:=Aside0.mk hr1_3
 have HC1_3:=Aside0.mk hc1_3
 clear hr1_3 hc1_3
 have HR1_5:=Aside0.mk hr1_5
 have HC1_5:=Aside0.mk hc1_5
 clear hr1_5 hc1_5
 have HB:=Aside0.mk (Below.refl w.heap.size w)
 have H : (if a0_0=a1_0 then (if a0_1=a1_1 then (if (a0_2 != a1_2)=true then (some false) else ((laws_eqIntS.f k l0_3 l1_3).bind fun t250=>(if t250=true then (if (a0_4 != a1_4)=true then (some false) else ((laws_eqIntS.f k l0_5 l1_5).bind fun t251=>(if t251=true then (some true) else (some false)))) else (some false)))) else (some false)) else (some false))=some r:=h
 clear h
 by_cases c3 : a0_0=a1_0
 ·rw [if_pos c3] at H
  have c3b0 : (a0_0 == a1_0)=true:=beq_iff_eq.mpr c3
  have c3b1 : (a0_0 != a1_0)=false:=bne_eq_false_iff_eq.mpr c3
  clear c3
  by_cases c4 : a0_1=a1_1
  ·rw [if_pos c4] at H
   have c4b0 : (a0_1 == a1_1)=true:=beq_iff_eq.mpr c4
   have c4b1 : (a0_1 != a1_1)=false:=bne_eq_false_iff_eq.mpr c4
   clear c4
   by_cases c5 : (a0_2 != a1_2)=true
   ·rw [if_pos c5] at H
    have c5b0 : (a0_2 != a1_2)=true:=c5
    (try (have c5b1 : decide (a0_2=a1_2)=false:=by simpa using c5))
    (try (have c5b2 : (a0_2 == a1_2)=false:=by simpa using c5))
    (try (have c5b3 : ¬ (a0_2=a1_2):=by simpa using c5))
    clear c5
    obtain rfl:=Option.some.inj H
    go_enter Try.func85,Try.ntmps85
    go_wp2_with (first|((with_reducible refine gate_dst (N:=2) rfl ?_);refine box_event ?hg (N:=2) ?hd (cs:=#[.int .i64 a0_0,.int .i64 a0_1,.bool a0_2,.slice A0_3 l0_3.length c0_3,.bool a0_4,.slice A0_5 l0_5.length c0_5]) (t:=57) ?hr ?_;(case hd=>rfl);(case hg=>rfl);(case hr=>first|(go_simp;done)|(go_simp;rfl));intro gb248 hg w6 hbox hb;have n0_:=Aside0.mk (below_step (by repeat (first|(with_reducible first|exact HB.out|apply below_alloc|apply pw_below_drewN|apply below_drew1)|exact HB.out)) hb);have n1_:=Aside0.mk (hbox);have n2_:=Aside0.mk ((by rw [hg];exact (below_size (by repeat (first|(with_reducible first|exact HB.out|apply below_alloc|apply pw_below_drewN|apply below_drew1)|exact HB.out))) : w.heap.size ≤ gb248));have n3_:=Aside0.mk ((by rw [hg];exact (below_size (by repeat (first|(with_reducible first|exact HB.out|apply below_alloc|apply pw_below_drewN|apply below_drew1)|exact HB.out))) : w.heap.size ≤ gb248));clear HB;have HB:=n0_;have BK248:=n1_;have GW248:=n2_;have GE248:=n3_;clear n0_ n1_ n2_ n3_;clear hb hbox hg)|((with_reducible refine gate_dst (N:=3) rfl ?_);refine box_event ?hg (N:=3) ?hd (cs:=#[.int .i64 a1_0,.int .i64 a1_1,.bool a1_2,.slice A1_3 l1_3.length c1_3,.bool a1_4,.slice A1_5 l1_5.length c1_5]) (t:=57) ?hr ?_;(case hd=>rfl);(case hg=>rfl);(case hr=>first|(go_simp;done)|(go_simp;rfl));intro gb249 hg w7 hbox hb;have n0_:=Aside0.mk (blk_below (g:=gb248) (o:=.cells #[.int .i64 a0_0,.int .i64 a0_1,.bool a0_2,.slice A0_3 l0_3.length c0_3,.bool a0_4,.slice A0_5 l0_5.length c0_5] 57 (0,0)) (by (with_reducible repeat (first|refine blk_drewN ?_ _|refine blk_drew ?_|refine blk_alloc ?_ _));exact BK248.out) hb);have n1_:=Aside0.mk (below_step (by repeat (first|(with_reducible first|exact HB.out|apply below_alloc|apply pw_below_drewN|apply below_drew1|refine below_set ?_ GE248.out)|exact HB.out)) hb);have n2_:=Aside0.mk (hbox);have n3_:=Aside0.mk ((by rw [hg];exact (below_size (by repeat (first|(with_reducible first|exact HB.out|apply below_alloc|apply pw_below_drewN|apply below_drew1|refine below_set ?_ GE248.out)|exact HB.out))) : w.heap.size ≤ gb249));have n4_:=Aside0.mk ((by rw [hg];exact (below_size (by repeat (first|(with_reducible first|exact HB.out|apply below_alloc|apply pw_below_drewN|apply below_drew1|refine below_set ?_ GE248.out)|exact HB.out))) : w.heap.size ≤ gb249));have n5_:=Aside0.mk ((by rw [hg];exact Nat.ne_of_lt (blk_lt (g:=gb248) (o:=.cells #[.int .i64 a0_0,.int .i64 a0_1,.bool a0_2,.slice A0_3 l0_3.length c0_3,.bool a0_4,.slice A0_5 l0_5.length c0_5] 57 (0,0)) (by (with_reducible repeat (first|refine blk_drewN ?_ _|refine blk_drew ?_|refine blk_alloc ?_ _));exact BK248.out)) : gb248 ≠ gb249));have n6_:=Aside0.mk ((by rw [hg];exact Nat.ne_of_gt (blk_lt (g:=gb248) (o:=.cells #[.int .i64 a0_0,.int .i64 a0_1,.bool a0_2,.slice A0_3 l0_3.length c0_3,.bool a0_4,.slice A0_5 l0_5.length c0_5] 57 (0,0)) (by (with_reducible repeat (first|refine blk_drewN ?_ _|refine blk_drew ?_|refine blk_alloc ?_ _));exact BK248.out)) : gb249 ≠ gb248));clear BK248;clear HB;have BK248:=n0_;have HB:=n1_;have BK249:=n2_;have GW249:=n3_;have GE249:=n4_;have NB248_249:=n5_;have NB249_248:=n6_;clear n0_ n1_ n2_ n3_ n4_ n5_ n6_;clear hb hbox hg;have hnb8:=NB248_249.out;have hnc8:=NB249_248.out;have hcz9_0 : w7.cell? ⟨gb248,0,none⟩ = some (.int .i64 a0_0):=(blk_cell BK248.out 0).trans rfl;have hcz9_1 : w7.cell? ⟨gb248,1,none⟩ = some (.int .i64 a0_1):=(blk_cell BK248.out 1).trans rfl;have hcz9_2 : w7.cell? ⟨gb248,2,none⟩ = some (.bool a0_2):=(blk_cell BK248.out 2).trans rfl;have hcz9_3 : w7.cell? ⟨gb248,3,none⟩ = some (.slice A0_3 l0_3.length c0_3):=(blk_cell BK248.out 3).trans rfl;have hcz9_4 : w7.cell? ⟨gb248,4,none⟩ = some (.bool a0_4):=(blk_cell BK248.out 4).trans rfl;have hcz9_5 : w7.cell? ⟨gb248,5,none⟩ = some (.slice A0_5 l0_5.length c0_5):=(blk_cell BK248.out 5).trans rfl;have hfz9_0:=blk_frozen BK248.out 0;have hfz9_1:=blk_frozen BK248.out 1;have hfz9_2:=blk_frozen BK248.out 2;have hfz9_3:=blk_frozen BK248.out 3;have hfz9_4:=blk_frozen BK248.out 4;have hfz9_5:=blk_frozen BK248.out 5;have hcz10_0 : w7.cell? ⟨gb249,0,none⟩ = some (.int .i64 a1_0):=(blk_cell BK249.out 0).trans rfl;have hcz10_1 : w7.cell? ⟨gb249,1,none⟩ = some (.int .i64 a1_1):=(blk_cell BK249.out 1).trans rfl;have hcz10_2 : w7.cell? ⟨gb249,2,none⟩ = some (.bool a1_2):=(blk_cell BK249.out 2).trans rfl;have hcz10_3 : w7.cell? ⟨gb249,3,none⟩ = some (.slice A1_3 l1_3.length c1_3):=(blk_cell BK249.out 3).trans rfl;have hcz10_4 : w7.cell? ⟨gb249,4,none⟩ = some (.bool a1_4):=(blk_cell BK249.out 4).trans rfl;have hcz10_5 : w7.cell? ⟨gb249,5,none⟩ = some (.slice A1_5 l1_5.length c1_5):=(blk_cell BK249.out 5).trans rfl;have hfz10_0:=blk_frozen BK249.out 0;have hfz10_1:=blk_frozen BK249.out 1;have hfz10_2:=blk_frozen BK249.out 2;have hfz10_3:=blk_frozen BK249.out 3;have hfz10_4:=blk_frozen BK249.out 4;have hfz10_5:=blk_frozen BK249.out 5))
    go_ret
    exact ⟨by first|rfl|(simp [errW_none,errW_some] <;> rfl)|(simp [*,errW_none,errW_some] <;> rfl),by repeat (first|(with_reducible first|exact HB.out|apply below_alloc|apply pw_below_drewN|apply below_drew1|refine below_set ?_ GE248.out|refine below_set ?_ GE249.out)|exact HB.out)⟩
   ·rw [if_neg c5] at H
    have c5b0 : (a0_2 != a1_2)=false:=by simpa using c5
    (try (have c5b1 : decide (a0_2=a1_2)=true:=by simpa using c5))
    (try (have c5b2 : (a0_2 == a1_2)=true:=by simpa using c5))
    clear c5
    replace H:=Option.bind_eq_some_iff.mp H
    obtain ⟨t250,A110,H⟩:=H
    replace H : (if t250=true then (if (a0_4 != a1_4)=true then (some false) else ((laws_eqIntS.f k l0_5 l1_5).bind fun t251=>(if t251=true then (some true) else (some false)))) else (some false))=some r:=H
    have A11:=Aside0.mk A110
    clear A110
    by_cases c12 : t250=true
    ·subst c12
     have H1 : (if (a0_4 != a1_4)=true then (some false) else ((laws_eqIntS.f k l0_5 l1_5).bind fun t251=>(if t251=true then (some true) else (some false))))=some r:=by rw [if_pos rfl] at H;exact H
     clear H
     have H:=H1
     clear H1
     by_cases c13 : (a0_4 != a1_4)=true
     ·rw [if_pos c13] at H
      have c13b0 : (a0_4 != a1_4)=true:=c13
      (try (have c13b1 : decide (a0_4=a1_4)=false:=by simpa using c13))
      (try (have c13b2 : (a0_4 == a1_4)=false:=by simpa using c13))
      (try (have c13b3 : ¬ (a0_4=a1_4):=by simpa using c13))
      clear c13
      obtain rfl:=Option.some.inj H
      go_enter Try.func85,Try.ntmps85
      go_wp2_with (first|((with_reducible refine gate_dst (N:=2) rfl ?_);refine box_event ?hg (N:=2) ?hd (cs:=#[.int .i64 a0_0,.int .i64 a0_1,.bool a0_2,.slice A0_3 l0_3.length c0_3,.bool a0_4,.slice A0_5 l0_5.length c0_5]) (t:=57) ?hr ?_;(case hd=>rfl);(case hg=>rfl);(case hr=>first|(go_simp;done)|(go_simp;rfl));intro gb248 hg w14 hbox hb;have n0_:=Aside0.mk (below_step (by repeat (first|(with_reducible first|exact HB.out|apply below_alloc|apply pw_below_drewN|apply below_drew1)|exact HB.out)) hb);have n1_:=Aside0.mk (hbox);have n2_:=Aside0.mk ((by rw [hg];exact (below_size (by repeat (first|(with_reducible first|exact HB.out|apply below_alloc|apply pw_below_drewN|apply below_drew1)|exact HB.out))) : w.heap.size ≤ gb248));have n3_:=Aside0.mk ((by rw [hg];exact (below_size (by repeat (first|(with_reducible first|exact HB.out|apply below_alloc|apply pw_below_drewN|apply below_drew1)|exact HB.out))) : w.heap.size ≤ gb248));clear HB;have HB:=n0_;have BK248:=n1_;have GW248:=n2_;have GE248:=n3_;clear n0_ n1_ n2_ n3_;clear hb hbox hg)|((with_reducible refine gate_dst (N:=3) rfl ?_);refine box_event ?hg (N:=3) ?hd (cs:=#[.int .i64 a1_0,.int .i64 a1_1,.bool a1_2,.slice A1_3 l1_3.length c1_3,.bool a1_4,.slice A1_5 l1_5.length c1_5]) (t:=57) ?hr ?_;(case hd=>rfl);(case hg=>rfl);(case hr=>first|(go_simp;done)|(go_simp;rfl));intro gb249 hg w15 hbox hb;have n0_:=Aside0.mk (blk_below (g:=gb248) (o:=.cells #[.int .i64 a0_0,.int .i64 a0_1,.bool a0_2,.slice A0_3 l0_3.length c0_3,.bool a0_4,.slice A0_5 l0_5.length c0_5] 57 (0,0)) (by (with_reducible repeat (first|refine blk_drewN ?_ _|refine blk_drew ?_|refine blk_alloc ?_ _));exact BK248.out) hb);have n1_:=Aside0.mk (below_step (by repeat (first|(with_reducible first|exact HB.out|apply below_alloc|apply pw_below_drewN|apply below_drew1|refine below_set ?_ GE248.out)|exact HB.out)) hb);have n2_:=Aside0.mk (hbox);have n3_:=Aside0.mk ((by rw [hg];exact (below_size (by repeat (first|(with_reducible first|exact HB.out|apply below_alloc|apply pw_below_drewN|apply below_drew1|refine below_set ?_ GE248.out)|exact HB.out))) : w.heap.size ≤ gb249));have n4_:=Aside0.mk ((by rw [hg];exact (below_size (by repeat (first|(with_reducible first|exact HB.out|apply below_alloc|apply pw_below_drewN|apply below_drew1|refine below_set ?_ GE248.out)|exact HB.out))) : w.heap.size ≤ gb249));have n5_:=Aside0.mk ((by rw [hg];exact Nat.ne_of_lt (blk_lt (g:=gb248) (o:=.cells #[.int .i64 a0_0,.int .i64 a0_1,.bool a0_2,.slice A0_3 l0_3.length c0_3,.bool a0_4,.slice A0_5 l0_5.length c0_5] 57 (0,0)) (by (with_reducible repeat (first|refine blk_drewN ?_ _|refine blk_drew ?_|refine blk_alloc ?_ _));exact BK248.out)) : gb248 ≠ gb249));have n6_:=Aside0.mk ((by rw [hg];exact Nat.ne_of_gt (blk_lt (g:=gb248) (o:=.cells #[.int .i64 a0_0,.int .i64 a0_1,.bool a0_2,.slice A0_3 l0_3.length c0_3,.bool a0_4,.slice A0_5 l0_5.length c0_5] 57 (0,0)) (by (with_reducible repeat (first|refine blk_drewN ?_ _|refine blk_drew ?_|refine blk_alloc ?_ _));exact BK248.out)) : gb249 ≠ gb248));clear BK248;clear HB;have BK248:=n0_;have HB:=n1_;have BK249:=n2_;have GW249:=n3_;have GE249:=n4_;have NB248_249:=n5_;have NB249_248:=n6_;clear n0_ n1_ n2_ n3_ n4_ n5_ n6_;clear hb hbox hg;have hnb16:=NB248_249.out;have hnc16:=NB249_248.out;have hcz17_0 : w15.cell? ⟨gb248,0,none⟩ = some (.int .i64 a0_0):=(blk_cell BK248.out 0).trans rfl;have hcz17_1 : w15.cell? ⟨gb248,1,none⟩ = some (.int .i64 a0_1):=(blk_cell BK248.out 1).trans rfl;have hcz17_2 : w15.cell? ⟨gb248,2,none⟩ = some (.bool a0_2):=(blk_cell BK248.out 2).trans rfl;have hcz17_3 : w15.cell? ⟨gb248,3,none⟩ = some (.slice A0_3 l0_3.length c0_3):=(blk_cell BK248.out 3).trans rfl;have hcz17_4 : w15.cell? ⟨gb248,4,none⟩ = some (.bool a0_4):=(blk_cell BK248.out 4).trans rfl;have hcz17_5 : w15.cell? ⟨gb248,5,none⟩ = some (.slice A0_5 l0_5.length c0_5):=(blk_cell BK248.out 5).trans rfl;have hfz17_0:=blk_frozen BK248.out 0;have hfz17_1:=blk_frozen BK248.out 1;have hfz17_2:=blk_frozen BK248.out 2;have hfz17_3:=blk_frozen BK248.out 3;have hfz17_4:=blk_frozen BK248.out 4;have hfz17_5:=blk_frozen BK248.out 5;have hcz18_0 : w15.cell? ⟨gb249,0,none⟩ = some (.int .i64 a1_0):=(blk_cell BK249.out 0).trans rfl;have hcz18_1 : w15.cell? ⟨gb249,1,none⟩ = some (.int .i64 a1_1):=(blk_cell BK249.out 1).trans rfl;have hcz18_2 : w15.cell? ⟨gb249,2,none⟩ = some (.bool a1_2):=(blk_cell BK249.out 2).trans rfl;have hcz18_3 : w15.cell? ⟨gb249,3,none⟩ = some (.slice A1_3 l1_3.length c1_3):=(blk_cell BK249.out 3).trans rfl;have hcz18_4 : w15.cell? ⟨gb249,4,none⟩ = some (.bool a1_4):=(blk_cell BK249.out 4).trans rfl;have hcz18_5 : w15.cell? ⟨gb249,5,none⟩ = some (.slice A1_5 l1_5.length c1_5):=(blk_cell BK249.out 5).trans rfl;have hfz18_0:=blk_frozen BK249.out 0;have hfz18_1:=blk_frozen BK249.out 1;have hfz18_2:=blk_frozen BK249.out 2;have hfz18_3:=blk_frozen BK249.out 3;have hfz18_4:=blk_frozen BK249.out 4;have hfz18_5:=blk_frozen BK249.out 5)|((with_reducible refine gate_callee (f:=41) rfl ?_);refine goesL_ (some 24) rfl rfl Try.func41 (by kernel_rfl) rfl #[.slice A0_3 l0_3.length c0_3,.slice A1_3 l1_3.length c1_3] rfl (by (try simp only [List.map_toArray,List.map_cons,List.map_nil]);first|done|rfl|(simp only [List.length_drop,List.length_take];rfl)) ?_;(with_reducible refine (laws_eqIntS.calls k _ _ l0_3 _ _ l1_3 true _ ?side1 ?side2 ?side3 ?side4 A11.out).mono ?_);(case side1=>repeat (first|exact (Kd.C_below HR0_3.out HB.out)|(with_reducible refine Kd.C_alloc ?_ _)|(with_reducible refine Kd.C_drewN ?_ _)|(with_reducible refine Kd.C_drew ?_)));(case side2=>exact HC0_3.out);(case side3=>repeat (first|exact (Kd.C_below HR1_3.out HB.out)|(with_reducible refine Kd.C_alloc ?_ _)|(with_reducible refine Kd.C_drewN ?_ _)|(with_reducible refine Kd.C_drew ?_)));(case side4=>exact HC1_3.out);rintro e w' ⟨rfl,⟨nd,rfl⟩⟩;refine ⟨_,rfl,?_⟩))
      go_ret
      exact ⟨by first|rfl|(simp [errW_none,errW_some] <;> rfl)|(simp [*,errW_none,errW_some] <;> rfl),by repeat (first|(with_reducible first|exact HB.out|apply below_alloc|apply pw_below_drewN|apply below_drew1|refine below_set ?_ GE248.out|refine below_set ?_ GE249.out)|exact HB.out)⟩
     ·rw [if_neg c13] at H
      have c13b0 : (a0_4 != a1_4)=false:=by simpa using c13
      (try (have c13b1 : decide (a0_4=a1_4)=true:=by simpa using c13))
      (try (have c13b2 : (a0_4 == a1_4)=true:=by simpa using c13))
      clear c13
      replace H:=Option.bind_eq_some_iff.mp H
      obtain ⟨t251,A190,H⟩:=H
      replace H : (if t251=true then (some true) else (some false))=some r:=H
      have A19:=Aside0.mk A190
      clear A190
      by_cases c20 : t251=true
      ·subst c20
       have H1 : (some true)=some r:=by rw [if_pos rfl] at H;exact H
       clear H
       have H:=H1
       clear H1
       obtain rfl:=Option.some.inj H
       go_enter Try.func85,Try.ntmps85
       go_wp2_with (first|((with_reducible refine gate_dst (N:=2) rfl ?_);refine box_event ?hg (N:=2) ?hd (cs:=#[.int .i64 a0_0,.int .i64 a0_1,.bool a0_2,.slice A0_3 l0_3.length c0_3,.bool a0_4,.slice A0_5 l0_5.length c0_5]) (t:=57) ?hr ?_;(case hd=>rfl);(case hg=>rfl);(case hr=>first|(go_simp;done)|(go_simp;rfl));intro gb248 hg w21 hbox hb;have n0_:=Aside0.mk (below_step (by repeat (first|(with_reducible first|exact HB.out|apply below_alloc|apply pw_below_drewN|apply below_drew1)|exact HB.out)) hb);have n1_:=Aside0.mk (hbox);have n2_:=Aside0.mk ((by rw [hg];exact (below_size (by repeat (first|(with_reducible first|exact HB.out|apply below_alloc|apply pw_below_drewN|apply below_drew1)|exact HB.out))) : w.heap.size ≤ gb248));have n3_:=Aside0.mk ((by rw [hg];exact (below_size (by repeat (first|(with_reducible first|exact HB.out|apply below_alloc|apply pw_below_drewN|apply below_drew1)|exact HB.out))) : w.heap.size ≤ gb248));clear HB;have HB:=n0_;have BK248:=n1_;have GW248:=n2_;have GE248:=n3_;clear n0_ n1_ n2_ n3_;clear hb hbox hg)|((with_reducible refine gate_dst (N:=3) rfl ?_);refine box_event ?hg (N:=3) ?hd (cs:=#[.int .i64 a1_0,.int .i64 a1_1,.bool a1_2,.slice A1_3 l1_3.length c1_3,.bool a1_4,.slice A1_5 l1_5.length c1_5]) (t:=57) ?hr ?_;(case hd=>rfl);(case hg=>rfl);(case hr=>first|(go_simp;done)|(go_simp;rfl));intro gb249 hg w22 hbox hb;have n0_:=Aside0.mk (blk_below (g:=gb248) (o:=.cells #[.int .i64 a0_0,.int .i64 a0_1,.bool a0_2,.slice A0_3 l0_3.length c0_3,.bool a0_4,.slice A0_5 l0_5.length c0_5] 57 (0,0)) (by (with_reducible repeat (first|refine blk_drewN ?_ _|refine blk_drew ?_|refine blk_alloc ?_ _));exact BK248.out) hb);have n1_:=Aside0.mk (below_step (by repeat (first|(with_reducible first|exact HB.out|apply below_alloc|apply pw_below_drewN|apply below_drew1|refine below_set ?_ GE248.out)|exact HB.out)) hb);have n2_:=Aside0.mk (hbox);have n3_:=Aside0.mk ((by rw [hg];exact (below_size (by repeat (first|(with_reducible first|exact HB.out|apply below_alloc|apply pw_below_drewN|apply below_drew1|refine below_set ?_ GE248.out)|exact HB.out))) : w.heap.size ≤ gb249));have n4_:=Aside0.mk ((by rw [hg];exact (below_size (by repeat (first|(with_reducible first|exact HB.out|apply below_alloc|apply pw_below_drewN|apply below_drew1|refine below_set ?_ GE248.out)|exact HB.out))) : w.heap.size ≤ gb249));have n5_:=Aside0.mk ((by rw [hg];exact Nat.ne_of_lt (blk_lt (g:=gb248) (o:=.cells #[.int .i64 a0_0,.int .i64 a0_1,.bool a0_2,.slice A0_3 l0_3.length c0_3,.bool a0_4,.slice A0_5 l0_5.length c0_5] 57 (0,0)) (by (with_reducible repeat (first|refine blk_drewN ?_ _|refine blk_drew ?_|refine blk_alloc ?_ _));exact BK248.out)) : gb248 ≠ gb249));have n6_:=Aside0.mk ((by rw [hg];exact Nat.ne_of_gt (blk_lt (g:=gb248) (o:=.cells #[.int .i64 a0_0,.int .i64 a0_1,.bool a0_2,.slice A0_3 l0_3.length c0_3,.bool a0_4,.slice A0_5 l0_5.length c0_5] 57 (0,0)) (by (with_reducible repeat (first|refine blk_drewN ?_ _|refine blk_drew ?_|refine blk_alloc ?_ _));exact BK248.out)) : gb249 ≠ gb248));clear BK248;clear HB;have BK248:=n0_;have HB:=n1_;have BK249:=n2_;have GW249:=n3_;have GE249:=n4_;have NB248_249:=n5_;have NB249_248:=n6_;clear n0_ n1_ n2_ n3_ n4_ n5_ n6_;clear hb hbox hg;have hnb23:=NB248_249.out;have hnc23:=NB249_248.out;have hcz24_0 : w22.cell? ⟨gb248,0,none⟩ = some (.int .i64 a0_0):=(blk_cell BK248.out 0).trans rfl;have hcz24_1 : w22.cell? ⟨gb248,1,none⟩ = some (.int .i64 a0_1):=(blk_cell BK248.out 1).trans rfl;have hcz24_2 : w22.cell? ⟨gb248,2,none⟩ = some (.bool a0_2):=(blk_cell BK248.out 2).trans rfl;have hcz24_3 : w22.cell? ⟨gb248,3,none⟩ = some (.slice A0_3 l0_3.length c0_3):=(blk_cell BK248.out 3).trans rfl;have hcz24_4 : w22.cell? ⟨gb248,4,none⟩ = some (.bool a0_4):=(blk_cell BK248.out 4).trans rfl;have hcz24_5 : w22.cell? ⟨gb248,5,none⟩ = some (.slice A0_5 l0_5.length c0_5):=(blk_cell BK248.out 5).trans rfl;have hfz24_0:=blk_frozen BK248.out 0;have hfz24_1:=blk_frozen BK248.out 1;have hfz24_2:=blk_frozen BK248.out 2;have hfz24_3:=blk_frozen BK248.out 3;have hfz24_4:=blk_frozen BK248.out 4;have hfz24_5:=blk_frozen BK248.out 5;have hcz25_0 : w22.cell? ⟨gb249,0,none⟩ = some (.int .i64 a1_0):=(blk_cell BK249.out 0).trans rfl;have hcz25_1 : w22.cell? ⟨gb249,1,none⟩ = some (.int .i64 a1_1):=(blk_cell BK249.out 1).trans rfl;have hcz25_2 : w22.cell? ⟨gb249,2,none⟩ = some (.bool a1_2):=(blk_cell BK249.out 2).trans rfl;have hcz25_3 : w22.cell? ⟨gb249,3,none⟩ = some (.slice A1_3 l1_3.length c1_3):=(blk_cell BK249.out 3).trans rfl;have hcz25_4 : w22.cell? ⟨gb249,4,none⟩ = some (.bool a1_4):=(blk_cell BK249.out 4).trans rfl;have hcz25_5 : w22.cell? ⟨gb249,5,none⟩ = some (.slice A1_5 l1_5.length c1_5):=(blk_cell BK249.out 5).trans rfl;have hfz25_0:=blk_frozen BK249.out 0;have hfz25_1:=blk_frozen BK249.out 1;have hfz25_2:=blk_frozen BK249.out 2;have hfz25_3:=blk_frozen BK249.out 3;have hfz25_4:=blk_frozen BK249.out 4;have hfz25_5:=blk_frozen BK249.out 5)|((with_reducible refine gate_callee (f:=41) rfl ?_);refine goesL_ (some 24) rfl rfl Try.func41 (by kernel_rfl) rfl #[.slice A0_3 l0_3.length c0_3,.slice A1_3 l1_3.length c1_3] rfl (by (try simp only [List.map_toArray,List.map_cons,List.map_nil]);first|done|rfl|(simp only [List.length_drop,List.length_take];rfl)) ?_;(with_reducible refine (laws_eqIntS.calls k _ _ l0_3 _ _ l1_3 true _ ?side1 ?side2 ?side3 ?side4 A11.out).mono ?_);(case side1=>repeat (first|exact (Kd.C_below HR0_3.out HB.out)|(with_reducible refine Kd.C_alloc ?_ _)|(with_reducible refine Kd.C_drewN ?_ _)|(with_reducible refine Kd.C_drew ?_)));(case side2=>exact HC0_3.out);(case side3=>repeat (first|exact (Kd.C_below HR1_3.out HB.out)|(with_reducible refine Kd.C_alloc ?_ _)|(with_reducible refine Kd.C_drewN ?_ _)|(with_reducible refine Kd.C_drew ?_)));(case side4=>exact HC1_3.out);rintro e w' ⟨rfl,⟨nd,rfl⟩⟩;refine ⟨_,rfl,?_⟩)|((with_reducible refine gate_callee (f:=41) rfl ?_);refine goesL_ (some 35) rfl rfl Try.func41 (by kernel_rfl) rfl #[.slice A0_5 l0_5.length c0_5,.slice A1_5 l1_5.length c1_5] rfl (by (try simp only [List.map_toArray,List.map_cons,List.map_nil]);first|done|rfl|(simp only [List.length_drop,List.length_take];rfl)) ?_;(with_reducible refine (laws_eqIntS.calls k _ _ l0_5 _ _ l1_5 true _ ?side1 ?side2 ?side3 ?side4 A19.out).mono ?_);(case side1=>repeat (first|exact (Kd.C_below HR0_5.out (by repeat (first|(with_reducible first|exact HB.out|apply below_alloc|apply pw_below_drewN|apply below_drew1|refine below_set ?_ GE248.out|refine below_set ?_ GE249.out)|exact HB.out)))|(with_reducible refine Kd.C_alloc ?_ _)|(with_reducible refine Kd.C_drewN ?_ _)|(with_reducible refine Kd.C_drew ?_)));(case side2=>exact HC0_5.out);(case side3=>repeat (first|exact (Kd.C_below HR1_5.out (by repeat (first|(with_reducible first|exact HB.out|apply below_alloc|apply pw_below_drewN|apply below_drew1|refine below_set ?_ GE248.out|refine below_set ?_ GE249.out)|exact HB.out)))|(with_reducible refine Kd.C_alloc ?_ _)|(with_reducible refine Kd.C_drewN ?_ _)|(with_reducible refine Kd.C_drew ?_)));(case side4=>exact HC1_5.out);rintro e w' ⟨rfl,⟨nd,rfl⟩⟩;refine ⟨_,rfl,?_⟩))
       go_ret
       exact ⟨by first|rfl|(simp [errW_none,errW_some] <;> rfl)|(simp [*,errW_none,errW_some] <;> rfl),by repeat (first|(with_reducible first|exact HB.out|apply below_alloc|apply pw_below_drewN|apply below_drew1|refine below_set ?_ GE248.out|refine below_set ?_ GE249.out)|exact HB.out)⟩
      ·replace c20:=Bool.eq_false_iff.mpr c20
       subst c20
       have H1 : (some false)=some r:=by rw [if_neg (show ¬ (false=true) by decide)] at H;exact H
       clear H
       have H:=H1
       clear H1
       obtain rfl:=Option.some.inj H
       go_enter Try.func85,Try.ntmps85
       go_wp2_with (first|((with_reducible refine gate_dst (N:=2) rfl ?_);refine box_event ?hg (N:=2) ?hd (cs:=#[.int .i64 a0_0,.int .i64 a0_1,.bool a0_2,.slice A0_3 l0_3.length c0_3,.bool a0_4,.slice A0_5 l0_5.length c0_5]) (t:=57) ?hr ?_;(case hd=>rfl);(case hg=>rfl);(case hr=>first|(go_simp;done)|(go_simp;rfl));intro gb248 hg w26 hbox hb;have n0_:=Aside0.mk (below_step (by repeat (first|(with_reducible first|exact HB.out|apply below_alloc|apply pw_below_drewN|apply below_drew1)|exact HB.out)) hb);have n1_:=Aside0.mk (hbox);have n2_:=Aside0.mk ((by rw [hg];exact (below_size (by repeat (first|(with_reducible first|exact HB.out|apply below_alloc|apply pw_below_drewN|apply below_drew1)|exact HB.out))) : w.heap.size ≤ gb248));have n3_:=Aside0.mk ((by rw [hg];exact (below_size (by repeat (first|(with_reducible first|exact HB.out|apply below_alloc|apply pw_below_drewN|apply below_drew1)|exact HB.out))) : w.heap.size ≤ gb248));clear HB;have HB:=n0_;have BK248:=n1_;have GW248:=n2_;have GE248:=n3_;clear n0_ n1_ n2_ n3_;clear hb hbox hg)|((with_reducible refine gate_dst (N:=3) rfl ?_);refine box_event ?hg (N:=3) ?hd (cs:=#[.int .i64 a1_0,.int .i64 a1_1,.bool a1_2,.slice A1_3 l1_3.length c1_3,.bool a1_4,.slice A1_5 l1_5.length c1_5]) (t:=57) ?hr ?_;(case hd=>rfl);(case hg=>rfl);(case hr=>first|(go_simp;done)|(go_simp;rfl));intro gb249 hg w27 hbox hb;have n0_:=Aside0.mk (blk_below (g:=gb248) (o:=.cells #[.int .i64 a0_0,.int .i64 a0_1,.bool a0_2,.slice A0_3 l0_3.length c0_3,.bool a0_4,.slice A0_5 l0_5.length c0_5] 57 (0,0)) (by (with_reducible repeat (first|refine blk_drewN ?_ _|refine blk_drew ?_|refine blk_alloc ?_ _));exact BK248.out) hb);have n1_:=Aside0.mk (below_step (by repeat (first|(with_reducible first|exact HB.out|apply below_alloc|apply pw_below_drewN|apply below_drew1|refine below_set ?_ GE248.out)|exact HB.out)) hb);have n2_:=Aside0.mk (hbox);have n3_:=Aside0.mk ((by rw [hg];exact (below_size (by repeat (first|(with_reducible first|exact HB.out|apply below_alloc|apply pw_below_drewN|apply below_drew1|refine below_set ?_ GE248.out)|exact HB.out))) : w.heap.size ≤ gb249));have n4_:=Aside0.mk ((by rw [hg];exact (below_size (by repeat (first|(with_reducible first|exact HB.out|apply below_alloc|apply pw_below_drewN|apply below_drew1|refine below_set ?_ GE248.out)|exact HB.out))) : w.heap.size ≤ gb249));have n5_:=Aside0.mk ((by rw [hg];exact Nat.ne_of_lt (blk_lt (g:=gb248) (o:=.cells #[.int .i64 a0_0,.int .i64 a0_1,.bool a0_2,.slice A0_3 l0_3.length c0_3,.bool a0_4,.slice A0_5 l0_5.length c0_5] 57 (0,0)) (by (with_reducible repeat (first|refine blk_drewN ?_ _|refine blk_drew ?_|refine blk_alloc ?_ _));exact BK248.out)) : gb248 ≠ gb249));have n6_:=Aside0.mk ((by rw [hg];exact Nat.ne_of_gt (blk_lt (g:=gb248) (o:=.cells #[.int .i64 a0_0,.int .i64 a0_1,.bool a0_2,.slice A0_3 l0_3.length c0_3,.bool a0_4,.slice A0_5 l0_5.length c0_5] 57 (0,0)) (by (with_reducible repeat (first|refine blk_drewN ?_ _|refine blk_drew ?_|refine blk_alloc ?_ _));exact BK248.out)) : gb249 ≠ gb248));clear BK248;clear HB;have BK248:=n0_;have HB:=n1_;have BK249:=n2_;have GW249:=n3_;have GE249:=n4_;have NB248_249:=n5_;have NB249_248:=n6_;clear n0_ n1_ n2_ n3_ n4_ n5_ n6_;clear hb hbox hg;have hnb28:=NB248_249.out;have hnc28:=NB249_248.out;have hcz29_0 : w27.cell? ⟨gb248,0,none⟩ = some (.int .i64 a0_0):=(blk_cell BK248.out 0).trans rfl;have hcz29_1 : w27.cell? ⟨gb248,1,none⟩ = some (.int .i64 a0_1):=(blk_cell BK248.out 1).trans rfl;have hcz29_2 : w27.cell? ⟨gb248,2,none⟩ = some (.bool a0_2):=(blk_cell BK248.out 2).trans rfl;have hcz29_3 : w27.cell? ⟨gb248,3,none⟩ = some (.slice A0_3 l0_3.length c0_3):=(blk_cell BK248.out 3).trans rfl;have hcz29_4 : w27.cell? ⟨gb248,4,none⟩ = some (.bool a0_4):=(blk_cell BK248.out 4).trans rfl;have hcz29_5 : w27.cell? ⟨gb248,5,none⟩ = some (.slice A0_5 l0_5.length c0_5):=(blk_cell BK248.out 5).trans rfl;have hfz29_0:=blk_frozen BK248.out 0;have hfz29_1:=blk_frozen BK248.out 1;have hfz29_2:=blk_frozen BK248.out 2;have hfz29_3:=blk_frozen BK248.out 3;have hfz29_4:=blk_frozen BK248.out 4;have hfz29_5:=blk_frozen BK248.out 5;have hcz30_0 : w27.cell? ⟨gb249,0,none⟩ = some (.int .i64 a1_0):=(blk_cell BK249.out 0).trans rfl;have hcz30_1 : w27.cell? ⟨gb249,1,none⟩ = some (.int .i64 a1_1):=(blk_cell BK249.out 1).trans rfl;have hcz30_2 : w27.cell? ⟨gb249,2,none⟩ = some (.bool a1_2):=(blk_cell BK249.out 2).trans rfl;have hcz30_3 : w27.cell? ⟨gb249,3,none⟩ = some (.slice A1_3 l1_3.length c1_3):=(blk_cell BK249.out 3).trans rfl;have hcz30_4 : w27.cell? ⟨gb249,4,none⟩ = some (.bool a1_4):=(blk_cell BK249.out 4).trans rfl;have hcz30_5 : w27.cell? ⟨gb249,5,none⟩ = some (.slice A1_5 l1_5.length c1_5):=(blk_cell BK249.out 5).trans rfl;have hfz30_0:=blk_frozen BK249.out 0;have hfz30_1:=blk_frozen BK249.out 1;have hfz30_2:=blk_frozen BK249.out 2;have hfz30_3:=blk_frozen BK249.out 3;have hfz30_4:=blk_frozen BK249.out 4;have hfz30_5:=blk_frozen BK249.out 5)|((with_reducible refine gate_callee (f:=41) rfl ?_);refine goesL_ (some 24) rfl rfl Try.func41 (by kernel_rfl) rfl #[.slice A0_3 l0_3.length c0_3,.slice A1_3 l1_3.length c1_3] rfl (by (try simp only [List.map_toArray,List.map_cons,List.map_nil]);first|done|rfl|(simp only [List.length_drop,List.length_take];rfl)) ?_;(with_reducible refine (laws_eqIntS.calls k _ _ l0_3 _ _ l1_3 true _ ?side1 ?side2 ?side3 ?side4 A11.out).mono ?_);(case side1=>repeat (first|exact (Kd.C_below HR0_3.out HB.out)|(with_reducible refine Kd.C_alloc ?_ _)|(with_reducible refine Kd.C_drewN ?_ _)|(with_reducible refine Kd.C_drew ?_)));(case side2=>exact HC0_3.out);(case side3=>repeat (first|exact (Kd.C_below HR1_3.out HB.out)|(with_reducible refine Kd.C_alloc ?_ _)|(with_reducible refine Kd.C_drewN ?_ _)|(with_reducible refine Kd.C_drew ?_)));(case side4=>exact HC1_3.out);rintro e w' ⟨rfl,⟨nd,rfl⟩⟩;refine ⟨_,rfl,?_⟩)|((with_reducible refine gate_callee (f:=41) rfl ?_);refine goesL_ (some 35) rfl rfl Try.func41 (by kernel_rfl) rfl #[.slice A0_5 l0_5.length c0_5,.slice A1_5 l1_5.length c1_5] rfl (by (try simp only [List.map_toArray,List.map_cons,List.map_nil]);first|done|rfl|(simp only [List.length_drop,List.length_take];rfl)) ?_;(with_reducible refine (laws_eqIntS.calls k _ _ l0_5 _ _ l1_5 false _ ?side1 ?side2 ?side3 ?side4 A19.out).mono ?_);(case side1=>repeat (first|exact (Kd.C_below HR0_5.out (by repeat (first|(with_reducible first|exact HB.out|apply below_alloc|apply pw_below_drewN|apply below_drew1|refine below_set ?_ GE248.out|refine below_set ?_ GE249.out)|exact HB.out)))|(with_reducible refine Kd.C_alloc ?_ _)|(with_reducible refine Kd.C_drewN ?_ _)|(with_reducible refine Kd.C_drew ?_)));(case side2=>exact HC0_5.out);(case side3=>repeat (first|exact (Kd.C_below HR1_5.out (by repeat (first|(with_reducible first|exact HB.out|apply below_alloc|apply pw_below_drewN|apply below_drew1|refine below_set ?_ GE248.out|refine below_set ?_ GE249.out)|exact HB.out)))|(with_reducible refine Kd.C_alloc ?_ _)|(with_reducible refine Kd.C_drewN ?_ _)|(with_reducible refine Kd.C_drew ?_)));(case side4=>exact HC1_5.out);rintro e w' ⟨rfl,⟨nd,rfl⟩⟩;refine ⟨_,rfl,?_⟩))
       go_ret
       exact ⟨by first|rfl|(simp [errW_none,errW_some] <;> rfl)|(simp [*,errW_none,errW_some] <;> rfl),by repeat (first|(with_reducible first|exact HB.out|apply below_alloc|apply pw_below_drewN|apply below_drew1|refine below_set ?_ GE248.out|refine below_set ?_ GE249.out)|exact HB.out)⟩
    ·replace c12:=Bool.eq_false_iff.mpr c12
     subst c12
     have H1 : (some false)=some r:=by rw [if_neg (show ¬ (false=true) by decide)] at H;exact H
     clear H
     have H:=H1
     clear H1
     obtain rfl:=Option.some.inj H
     go_enter Try.func85,Try.ntmps85
     go_wp2_with (first|((with_reducible refine gate_dst (N:=2) rfl ?_);refine box_event ?hg (N:=2) ?hd (cs:=#[.int .i64 a0_0,.int .i64 a0_1,.bool a0_2,.slice A0_3 l0_3.length c0_3,.bool a0_4,.slice A0_5 l0_5.length c0_5]) (t:=57) ?hr ?_;(case hd=>rfl);(case hg=>rfl);(case hr=>first|(go_simp;done)|(go_simp;rfl));intro gb248 hg w31 hbox hb;have n0_:=Aside0.mk (below_step (by repeat (first|(with_reducible first|exact HB.out|apply below_alloc|apply pw_below_drewN|apply below_drew1)|exact HB.out)) hb);have n1_:=Aside0.mk (hbox);have n2_:=Aside0.mk ((by rw [hg];exact (below_size (by repeat (first|(with_reducible first|exact HB.out|apply below_alloc|apply pw_below_drewN|apply below_drew1)|exact HB.out))) : w.heap.size ≤ gb248));have n3_:=Aside0.mk ((by rw [hg];exact (below_size (by repeat (first|(with_reducible first|exact HB.out|apply below_alloc|apply pw_below_drewN|apply below_drew1)|exact HB.out))) : w.heap.size ≤ gb248));clear HB;have HB:=n0_;have BK248:=n1_;have GW248:=n2_;have GE248:=n3_;clear n0_ n1_ n2_ n3_;clear hb hbox hg)|((with_reducible refine gate_dst (N:=3) rfl ?_);refine box_event ?hg (N:=3) ?hd (cs:=#[.int .i64 a1_0,.int .i64 a1_1,.bool a1_2,.slice A1_3 l1_3.length c1_3,.bool a1_4,.slice A1_5 l1_5.length c1_5]) (t:=57) ?hr ?_;(case hd=>rfl);(case hg=>rfl);(case hr=>first|(go_simp;done)|(go_simp;rfl));intro gb249 hg w32 hbox hb;have n0_:=Aside0.mk (blk_below (g:=gb248) (o:=.cells #[.int .i64 a0_0,.int .i64 a0_1,.bool a0_2,.slice A0_3 l0_3.length c0_3,.bool a0_4,.slice A0_5 l0_5.length c0_5] 57 (0,0)) (by (with_reducible repeat (first|refine blk_drewN ?_ _|refine blk_drew ?_|refine blk_alloc ?_ _));exact BK248.out) hb);have n1_:=Aside0.mk (below_step (by repeat (first|(with_reducible first|exact HB.out|apply below_alloc|apply pw_below_drewN|apply below_drew1|refine below_set ?_ GE248.out)|exact HB.out)) hb);have n2_:=Aside0.mk (hbox);have n3_:=Aside0.mk ((by rw [hg];exact (below_size (by repeat (first|(with_reducible first|exact HB.out|apply below_alloc|apply pw_below_drewN|apply below_drew1|refine below_set ?_ GE248.out)|exact HB.out))) : w.heap.size ≤ gb249));have n4_:=Aside0.mk ((by rw [hg];exact (below_size (by repeat (first|(with_reducible first|exact HB.out|apply below_alloc|apply pw_below_drewN|apply below_drew1|refine below_set ?_ GE248.out)|exact HB.out))) : w.heap.size ≤ gb249));have n5_:=Aside0.mk ((by rw [hg];exact Nat.ne_of_lt (blk_lt (g:=gb248) (o:=.cells #[.int .i64 a0_0,.int .i64 a0_1,.bool a0_2,.slice A0_3 l0_3.length c0_3,.bool a0_4,.slice A0_5 l0_5.length c0_5] 57 (0,0)) (by (with_reducible repeat (first|refine blk_drewN ?_ _|refine blk_drew ?_|refine blk_alloc ?_ _));exact BK248.out)) : gb248 ≠ gb249));have n6_:=Aside0.mk ((by rw [hg];exact Nat.ne_of_gt (blk_lt (g:=gb248) (o:=.cells #[.int .i64 a0_0,.int .i64 a0_1,.bool a0_2,.slice A0_3 l0_3.length c0_3,.bool a0_4,.slice A0_5 l0_5.length c0_5] 57 (0,0)) (by (with_reducible repeat (first|refine blk_drewN ?_ _|refine blk_drew ?_|refine blk_alloc ?_ _));exact BK248.out)) : gb249 ≠ gb248));clear BK248;clear HB;have BK248:=n0_;have HB:=n1_;have BK249:=n2_;have GW249:=n3_;have GE249:=n4_;have NB248_249:=n5_;have NB249_248:=n6_;clear n0_ n1_ n2_ n3_ n4_ n5_ n6_;clear hb hbox hg;have hnb33:=NB248_249.out;have hnc33:=NB249_248.out;have hcz34_0 : w32.cell? ⟨gb248,0,none⟩ = some (.int .i64 a0_0):=(blk_cell BK248.out 0).trans rfl;have hcz34_1 : w32.cell? ⟨gb248,1,none⟩ = some (.int .i64 a0_1):=(blk_cell BK248.out 1).trans rfl;have hcz34_2 : w32.cell? ⟨gb248,2,none⟩ = some (.bool a0_2):=(blk_cell BK248.out 2).trans rfl;have hcz34_3 : w32.cell? ⟨gb248,3,none⟩ = some (.slice A0_3 l0_3.length c0_3):=(blk_cell BK248.out 3).trans rfl;have hcz34_4 : w32.cell? ⟨gb248,4,none⟩ = some (.bool a0_4):=(blk_cell BK248.out 4).trans rfl;have hcz34_5 : w32.cell? ⟨gb248,5,none⟩ = some (.slice A0_5 l0_5.length c0_5):=(blk_cell BK248.out 5).trans rfl;have hfz34_0:=blk_frozen BK248.out 0;have hfz34_1:=blk_frozen BK248.out 1;have hfz34_2:=blk_frozen BK248.out 2;have hfz34_3:=blk_frozen BK248.out 3;have hfz34_4:=blk_frozen BK248.out 4;have hfz34_5:=blk_frozen BK248.out 5;have hcz35_0 : w32.cell? ⟨gb249,0,none⟩ = some (.int .i64 a1_0):=(blk_cell BK249.out 0).trans rfl;have hcz35_1 : w32.cell? ⟨gb249,1,none⟩ = some (.int .i64 a1_1):=(blk_cell BK249.out 1).trans rfl;have hcz35_2 : w32.cell? ⟨gb249,2,none⟩ = some (.bool a1_2):=(blk_cell BK249.out 2).trans rfl;have hcz35_3 : w32.cell? ⟨gb249,3,none⟩ = some (.slice A1_3 l1_3.length c1_3):=(blk_cell BK249.out 3).trans rfl;have hcz35_4 : w32.cell? ⟨gb249,4,none⟩ = some (.bool a1_4):=(blk_cell BK249.out 4).trans rfl;have hcz35_5 : w32.cell? ⟨gb249,5,none⟩ = some (.slice A1_5 l1_5.length c1_5):=(blk_cell BK249.out 5).trans rfl;have hfz35_0:=blk_frozen BK249.out 0;have hfz35_1:=blk_frozen BK249.out 1;have hfz35_2:=blk_frozen BK249.out 2;have hfz35_3:=blk_frozen BK249.out 3;have hfz35_4:=blk_frozen BK249.out 4;have hfz35_5:=blk_frozen BK249.out 5)|((with_reducible refine gate_callee (f:=41) rfl ?_);refine goesL_ (some 24) rfl rfl Try.func41 (by kernel_rfl) rfl #[.slice A0_3 l0_3.length c0_3,.slice A1_3 l1_3.length c1_3] rfl (by (try simp only [List.map_toArray,List.map_cons,List.map_nil]);first|done|rfl|(simp only [List.length_drop,List.length_take];rfl)) ?_;(with_reducible refine (laws_eqIntS.calls k _ _ l0_3 _ _ l1_3 false _ ?side1 ?side2 ?side3 ?side4 A11.out).mono ?_);(case side1=>repeat (first|exact (Kd.C_below HR0_3.out HB.out)|(with_reducible refine Kd.C_alloc ?_ _)|(with_reducible refine Kd.C_drewN ?_ _)|(with_reducible refine Kd.C_drew ?_)));(case side2=>exact HC0_3.out);(case side3=>repeat (first|exact (Kd.C_below HR1_3.out HB.out)|(with_reducible refine Kd.C_alloc ?_ _)|(with_reducible refine Kd.C_drewN ?_ _)|(with_reducible refine Kd.C_drew ?_)));(case side4=>exact HC1_3.out);rintro e w' ⟨rfl,⟨nd,rfl⟩⟩;refine ⟨_,rfl,?_⟩))
     go_ret
     exact ⟨by first|rfl|(simp [errW_none,errW_some] <;> rfl)|(simp [*,errW_none,errW_some] <;> rfl),by repeat (first|(with_reducible first|exact HB.out|apply below_alloc|apply pw_below_drewN|apply below_drew1|refine below_set ?_ GE248.out|refine below_set ?_ GE249.out)|exact HB.out)⟩
  ·rw [if_neg c4] at H
   have c4b0 : (a0_1 == a1_1)=false:=beq_eq_false_iff_ne.mpr c4
   have c4b1 : (a0_1 != a1_1)=true:=bne_iff_ne.mpr c4
   obtain rfl:=Option.some.inj H
   go_enter Try.func85,Try.ntmps85
   go_wp2_with (first|((with_reducible refine gate_dst (N:=2) rfl ?_);refine box_event ?hg (N:=2) ?hd (cs:=#[.int .i64 a0_0,.int .i64 a0_1,.bool a0_2,.slice A0_3 l0_3.length c0_3,.bool a0_4,.slice A0_5 l0_5.length c0_5]) (t:=57) ?hr ?_;(case hd=>rfl);(case hg=>rfl);(case hr=>first|(go_simp;done)|(go_simp;rfl));intro gb248 hg w36 hbox hb;have n0_:=Aside0.mk (below_step (by repeat (first|(with_reducible first|exact HB.out|apply below_alloc|apply pw_below_drewN|apply below_drew1)|exact HB.out)) hb);have n1_:=Aside0.mk (hbox);have n2_:=Aside0.mk ((by rw [hg];exact (below_size (by repeat (first|(with_reducible first|exact HB.out|apply below_alloc|apply pw_below_drewN|apply below_drew1)|exact HB.out))) : w.heap.size ≤ gb248));have n3_:=Aside0.mk ((by rw [hg];exact (below_size (by repeat (first|(with_reducible first|exact HB.out|apply below_alloc|apply pw_below_drewN|apply below_drew1)|exact HB.out))) : w.heap.size ≤ gb248));clear HB;have HB:=n0_;have BK248:=n1_;have GW248:=n2_;have GE248:=n3_;clear n0_ n1_ n2_ n3_;clear hb hbox hg)|((with_reducible refine gate_dst (N:=3) rfl ?_);refine box_event ?hg (N:=3) ?hd (cs:=#[.int .i64 a1_0,.int .i64 a1_1,.bool a1_2,.slice A1_3 l1_3.length c1_3,.bool a1_4,.slice A1_5 l1_5.length c1_5]) (t:=57) ?hr ?_;(case hd=>rfl);(case hg=>rfl);(case hr=>first|(go_simp;done)|(go_simp;rfl));intro gb249 hg w37 hbox hb;have n0_:=Aside0.mk (blk_below (g:=gb248) (o:=.cells #[.int .i64 a0_0,.int .i64 a0_1,.bool a0_2,.slice A0_3 l0_3.length c0_3,.bool a0_4,.slice A0_5 l0_5.length c0_5] 57 (0,0)) (by (with_reducible repeat (first|refine blk_drewN ?_ _|refine blk_drew ?_|refine blk_alloc ?_ _));exact BK248.out) hb);have n1_:=Aside0.mk (below_step (by repeat (first|(with_reducible first|exact HB.out|apply below_alloc|apply pw_below_drewN|apply below_drew1|refine below_set ?_ GE248.out)|exact HB.out)) hb);have n2_:=Aside0.mk (hbox);have n3_:=Aside0.mk ((by rw [hg];exact (below_size (by repeat (first|(with_reducible first|exact HB.out|apply below_alloc|apply pw_below_drewN|apply below_drew1|refine below_set ?_ GE248.out)|exact HB.out))) : w.heap.size ≤ gb249));have n4_:=Aside0.mk ((by rw [hg];exact (below_size (by repeat (first|(with_reducible first|exact HB.out|apply below_alloc|apply pw_below_drewN|apply below_drew1|refine below_set ?_ GE248.out)|exact HB.out))) : w.heap.size ≤ gb249));have n5_:=Aside0.mk ((by rw [hg];exact Nat.ne_of_lt (blk_lt (g:=gb248) (o:=.cells #[.int .i64 a0_0,.int .i64 a0_1,.bool a0_2,.slice A0_3 l0_3.length c0_3,.bool a0_4,.slice A0_5 l0_5.length c0_5] 57 (0,0)) (by (with_reducible repeat (first|refine blk_drewN ?_ _|refine blk_drew ?_|refine blk_alloc ?_ _));exact BK248.out)) : gb248 ≠ gb249));have n6_:=Aside0.mk ((by rw [hg];exact Nat.ne_of_gt (blk_lt (g:=gb248) (o:=.cells #[.int .i64 a0_0,.int .i64 a0_1,.bool a0_2,.slice A0_3 l0_3.length c0_3,.bool a0_4,.slice A0_5 l0_5.length c0_5] 57 (0,0)) (by (with_reducible repeat (first|refine blk_drewN ?_ _|refine blk_drew ?_|refine blk_alloc ?_ _));exact BK248.out)) : gb249 ≠ gb248));clear BK248;clear HB;have BK248:=n0_;have HB:=n1_;have BK249:=n2_;have GW249:=n3_;have GE249:=n4_;have NB248_249:=n5_;have NB249_248:=n6_;clear n0_ n1_ n2_ n3_ n4_ n5_ n6_;clear hb hbox hg;have hnb38:=NB248_249.out;have hnc38:=NB249_248.out;have hcz39_0 : w37.cell? ⟨gb248,0,none⟩ = some (.int .i64 a0_0):=(blk_cell BK248.out 0).trans rfl;have hcz39_1 : w37.cell? ⟨gb248,1,none⟩ = some (.int .i64 a0_1):=(blk_cell BK248.out 1).trans rfl;have hcz39_2 : w37.cell? ⟨gb248,2,none⟩ = some (.bool a0_2):=(blk_cell BK248.out 2).trans rfl;have hcz39_3 : w37.cell? ⟨gb248,3,none⟩ = some (.slice A0_3 l0_3.length c0_3):=(blk_cell BK248.out 3).trans rfl;have hcz39_4 : w37.cell? ⟨gb248,4,none⟩ = some (.bool a0_4):=(blk_cell BK248.out 4).trans rfl;have hcz39_5 : w37.cell? ⟨gb248,5,none⟩ = some (.slice A0_5 l0_5.length c0_5):=(blk_cell BK248.out 5).trans rfl;have hfz39_0:=blk_frozen BK248.out 0;have hfz39_1:=blk_frozen BK248.out 1;have hfz39_2:=blk_frozen BK248.out 2;have hfz39_3:=blk_frozen BK248.out 3;have hfz39_4:=blk_frozen BK248.out 4;have hfz39_5:=blk_frozen BK248.out 5;have hcz40_0 : w37.cell? ⟨gb249,0,none⟩ = some (.int .i64 a1_0):=(blk_cell BK249.out 0).trans rfl;have hcz40_1 : w37.cell? ⟨gb249,1,none⟩ = some (.int .i64 a1_1):=(blk_cell BK249.out 1).trans rfl;have hcz40_2 : w37.cell? ⟨gb249,2,none⟩ = some (.bool a1_2):=(blk_cell BK249.out 2).trans rfl;have hcz40_3 : w37.cell? ⟨gb249,3,none⟩ = some (.slice A1_3 l1_3.length c1_3):=(blk_cell BK249.out 3).trans rfl;have hcz40_4 : w37.cell? ⟨gb249,4,none⟩ = some (.bool a1_4):=(blk_cell BK249.out 4).trans rfl;have hcz40_5 : w37.cell? ⟨gb249,5,none⟩ = some (.slice A1_5 l1_5.length c1_5):=(blk_cell BK249.out 5).trans rfl;have hfz40_0:=blk_frozen BK249.out 0;have hfz40_1:=blk_frozen BK249.out 1;have hfz40_2:=blk_frozen BK249.out 2;have hfz40_3:=blk_frozen BK249.out 3;have hfz40_4:=blk_frozen BK249.out 4;have hfz40_5:=blk_frozen BK249.out 5))
   go_ret
   exact ⟨by first|rfl|(simp [errW_none,errW_some] <;> rfl)|(simp [*,errW_none,errW_some] <;> rfl),by repeat (first|(with_reducible first|exact HB.out|apply below_alloc|apply pw_below_drewN|apply below_drew1|refine below_set ?_ GE248.out|refine below_set ?_ GE249.out)|exact HB.out)⟩
 ·rw [if_neg c3] at H
  have c3b0 : (a0_0 == a1_0)=false:=beq_eq_false_iff_ne.mpr c3
  have c3b1 : (a0_0 != a1_0)=true:=bne_iff_ne.mpr c3
  obtain rfl:=Option.some.inj H
  go_enter Try.func85,Try.ntmps85
  go_wp2_with (first|((with_reducible refine gate_dst (N:=2) rfl ?_);refine box_event ?hg (N:=2) ?hd (cs:=#[.int .i64 a0_0,.int .i64 a0_1,.bool a0_2,.slice A0_3 l0_3.length c0_3,.bool a0_4,.slice A0_5 l0_5.length c0_5]) (t:=57) ?hr ?_;(case hd=>rfl);(case hg=>rfl);(case hr=>first|(go_simp;done)|(go_simp;rfl));intro gb248 hg w41 hbox hb;have n0_:=Aside0.mk (below_step (by repeat (first|(with_reducible first|exact HB.out|apply below_alloc|apply pw_below_drewN|apply below_drew1)|exact HB.out)) hb);have n1_:=Aside0.mk (hbox);have n2_:=Aside0.mk ((by rw [hg];exact (below_size (by repeat (first|(with_reducible first|exact HB.out|apply below_alloc|apply pw_below_drewN|apply below_drew1)|exact HB.out))) : w.heap.size ≤ gb248));have n3_:=Aside0.mk ((by rw [hg];exact (below_size (by repeat (first|(with_reducible first|exact HB.out|apply below_alloc|apply pw_below_drewN|apply below_drew1)|exact HB.out))) : w.heap.size ≤ gb248));clear HB;have HB:=n0_;have BK248:=n1_;have GW248:=n2_;have GE248:=n3_;clear n0_ n1_ n2_ n3_;clear hb hbox hg)|((with_reducible refine gate_dst (N:=3) rfl ?_);refine box_event ?hg (N:=3) ?hd (cs:=#[.int .i64 a1_0,.int .i64 a1_1,.bool a1_2,.slice A1_3 l1_3.length c1_3,.bool a1_4,.slice A1_5 l1_5.length c1_5]) (t:=57) ?hr ?_;(case hd=>rfl);(case hg=>rfl);(case hr=>first|(go_simp;done)|(go_simp;rfl));intro gb249 hg w42 hbox hb;have n0_:=Aside0.mk (blk_below (g:=gb248) (o:=.cells #[.int .i64 a0_0,.int .i64 a0_1,.bool a0_2,.slice A0_3 l0_3.length c0_3,.bool a0_4,.slice A0_5 l0_5.length c0_5] 57 (0,0)) (by (with_reducible repeat (first|refine blk_drewN ?_ _|refine blk_drew ?_|refine blk_alloc ?_ _));exact BK248.out) hb);have n1_:=Aside0.mk (below_step (by repeat (first|(with_reducible first|exact HB.out|apply below_alloc|apply pw_below_drewN|apply below_drew1|refine below_set ?_ GE248.out)|exact HB.out)) hb);have n2_:=Aside0.mk (hbox);have n3_:=Aside0.mk ((by rw [hg];exact (below_size (by repeat (first|(with_reducible first|exact HB.out|apply below_alloc|apply pw_below_drewN|apply below_drew1|refine below_set ?_ GE248.out)|exact HB.out))) : w.heap.size ≤ gb249));have n4_:=Aside0.mk ((by rw [hg];exact (below_size (by repeat (first|(with_reducible first|exact HB.out|apply below_alloc|apply pw_below_drewN|apply below_drew1|refine below_set ?_ GE248.out)|exact HB.out))) : w.heap.size ≤ gb249));have n5_:=Aside0.mk ((by rw [hg];exact Nat.ne_of_lt (blk_lt (g:=gb248) (o:=.cells #[.int .i64 a0_0,.int .i64 a0_1,.bool a0_2,.slice A0_3 l0_3.length c0_3,.bool a0_4,.slice A0_5 l0_5.length c0_5] 57 (0,0)) (by (with_reducible repeat (first|refine blk_drewN ?_ _|refine blk_drew ?_|refine blk_alloc ?_ _));exact BK248.out)) : gb248 ≠ gb249));have n6_:=Aside0.mk ((by rw [hg];exact Nat.ne_of_gt (blk_lt (g:=gb248) (o:=.cells #[.int .i64 a0_0,.int .i64 a0_1,.bool a0_2,.slice A0_3 l0_3.length c0_3,.bool a0_4,.slice A0_5 l0_5.length c0_5] 57 (0,0)) (by (with_reducible repeat (first|refine blk_drewN ?_ _|refine blk_drew ?_|refine blk_alloc ?_ _));exact BK248.out)) : gb249 ≠ gb248));clear BK248;clear HB;have BK248:=n0_;have HB:=n1_;have BK249:=n2_;have GW249:=n3_;have GE249:=n4_;have NB248_249:=n5_;have NB249_248:=n6_;clear n0_ n1_ n2_ n3_ n4_ n5_ n6_;clear hb hbox hg;have hnb43:=NB248_249.out;have hnc43:=NB249_248.out;have hcz44_0 : w42.cell? ⟨gb248,0,none⟩ = some (.int .i64 a0_0):=(blk_cell BK248.out 0).trans rfl;have hcz44_1 : w42.cell? ⟨gb248,1,none⟩ = some (.int .i64 a0_1):=(blk_cell BK248.out 1).trans rfl;have hcz44_2 : w42.cell? ⟨gb248,2,none⟩ = some (.bool a0_2):=(blk_cell BK248.out 2).trans rfl;have hcz44_3 : w42.cell? ⟨gb248,3,none⟩ = some (.slice A0_3 l0_3.length c0_3):=(blk_cell BK248.out 3).trans rfl;have hcz44_4 : w42.cell? ⟨gb248,4,none⟩ = some (.bool a0_4):=(blk_cell BK248.out 4).trans rfl;have hcz44_5 : w42.cell? ⟨gb248,5,none⟩ = some (.slice A0_5 l0_5.length c0_5):=(blk_cell BK248.out 5).trans rfl;have hfz44_0:=blk_frozen BK248.out 0;have hfz44_1:=blk_frozen BK248.out 1;have hfz44_2:=blk_frozen BK248.out 2;have hfz44_3:=blk_frozen BK248.out 3;have hfz44_4:=blk_frozen BK248.out 4;have hfz44_5:=blk_frozen BK248.out 5;have hcz45_0 : w42.cell? ⟨gb249,0,none⟩ = some (.int .i64 a1_0):=(blk_cell BK249.out 0).trans rfl;have hcz45_1 : w42.cell? ⟨gb249,1,none⟩ = some (.int .i64 a1_1):=(blk_cell BK249.out 1).trans rfl;have hcz45_2 : w42.cell? ⟨gb249,2,none⟩ = some (.bool a1_2):=(blk_cell BK249.out 2).trans rfl;have hcz45_3 : w42.cell? ⟨gb249,3,none⟩ = some (.slice A1_3 l1_3.length c1_3):=(blk_cell BK249.out 3).trans rfl;have hcz45_4 : w42.cell? ⟨gb249,4,none⟩ = some (.bool a1_4):=(blk_cell BK249.out 4).trans rfl;have hcz45_5 : w42.cell? ⟨gb249,5,none⟩ = some (.slice A1_5 l1_5.length c1_5):=(blk_cell BK249.out 5).trans rfl;have hfz45_0:=blk_frozen BK249.out 0;have hfz45_1:=blk_frozen BK249.out 1;have hfz45_2:=blk_frozen BK249.out 2;have hfz45_3:=blk_frozen BK249.out 3;have hfz45_4:=blk_frozen BK249.out 4;have hfz45_5:=blk_frozen BK249.out 5))
  go_ret
  exact ⟨by first|rfl|(simp [errW_none,errW_some] <;> rfl)|(simp [*,errW_none,errW_some] <;> rfl),by repeat (first|(with_reducible first|exact HB.out|apply below_alloc|apply pw_below_drewN|apply below_drew1|refine below_set ?_ GE248.out|refine below_set ?_ GE249.out)|exact HB.out)⟩

end Go.Proofs.Ytmpnedpokdaejaa.QFnExactOldTurn
