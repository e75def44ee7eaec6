-- Written by this session's program wip/ownprint.py.
import Derived.Test.YtmpnedpokdaejaaQFnTurnx0
import Derived.Test.YtmpnedpokdaejaaQFnTurnx5
import Derived.Test.YtmpnedpokdaejaaQFnTurnx6
namespace Go.Proofs.Ytmpnedpokdaejaa.QFnTurn
open Go.RowKit Go.Proofs.YtmpnedpokdaejaaW.PrintWords Go.Proofs.YtmpnedpokdaejaaW.PrintLast Go.Proofs.YtmpnedpokdaejaaW.PrintMore
attribute [local go_sem] max2_int min2_int max_two min_two max_three min_three max_four min_four   -- for this text's walks alone
set_option linter.unusedVariables false
set_option linter.unusedSimpArgs false

/-! ### impl_OldTurn: function 25 -/
def impl_OldTurn.l0 : Nat→List (S26)→Int→Int→Bool→Bool→Int→Int→Int→List (S57)→Option (Bool × Bool × Int × Int × Int × (List (S57)) × Bool)
 | 0,_,_,_,_,_,_,_,_,_=>none
 | k + 1,x15,x16,x17,x196000,x196001,x196002,x196003,x196004,x196005=>if x17 < x16 then (if 0 ≤ x17 then (if x17 < (x15.length : Int) then ((impl_OldValid.f k ((rd_T26 x15 x17).f0) ((rd_T26 x15 x17).f1) ((rd_T26 x15 x17).f2) ((rd_T26 x15 x17).f3) ((rd_T26 x15 x17).f4) ((rd_T26 x15 x17).f5) ((rd_T26 x15 x17).f6)).bind fun t199=>(if t199=true then ((impl_Old_kept.f ((rd_T26 x15 x17).f0) ((rd_T26 x15 x17).f1) ((rd_T26 x15 x17).f2) ((rd_T26 x15 x17).f3) ((rd_T26 x15 x17).f4) ((rd_T26 x15 x17).f5) ((rd_T26 x15 x17).f6)).bind fun bt200=>(if x196005.length < 1759218604441 then (impl_OldTurn.l0 k x15 x16 (wrap64 (x17 + 1)) x196000 x196001 x196002 x196003 x196004 (x196005 ++ [(⟨bt200.1,bt200.2.1,bt200.2.2.1,bt200.2.2.2.1,bt200.2.2.2.2.1,bt200.2.2.2.2.2⟩ : S57)])) else (none))) else (some (false,false,0,0,0,([] : List (S57)),false)))) else (none)) else (none)) else ((impl_BatchValid.f k x196000 x196001 x196002 x196003 x196004 x196005).bind fun t196=>(if t196=true then (some (x196000,x196001,x196002,x196003,x196004,x196005,true)) else (some (false,false,0,0,0,([] : List (S57)),false))))
def impl_OldTurn.f (k : Nat) (l0 : List (S26)) (a1 : Bool) : Option (Bool × Bool × Int × Int × Int × (List (S57)) × Bool):=if (l0.length : Int) > 6 then (some (false,false,0,0,0,([] : List (S57)),false)) else (impl_OldTurn.l0 k l0 (l0.length : Int) 0 a1 false 255 0 0 ([] : List (S57)))
theorem impl_OldTurn.mono_l : ∀ k,(∀ y0 y1 y2 y3 y4 y5 y6 y7 y8,LeO (impl_OldTurn.l0 k y0 y1 y2 y3 y4 y5 y6 y7 y8) (impl_OldTurn.l0 (k + 1) y0 y1 y2 y3 y4 y5 y6 y7 y8))
 | 0=>fun _ _ _ _ _ _ _ _ _ r h=>by simp [impl_OldTurn.l0] at h
 | k + 1=>by
  have ih0:=impl_OldTurn.mono_l k
  ·intro y0 y1 y2 y3 y4 y5 y6 y7 y8
   unfold impl_OldTurn.l0
   repeat' first
   | (with_reducible exact ih0 _ _ _ _ _ _ _ _ _)
   | (with_reducible exact impl_BatchValid.mono _ _ _ _ _ _ _)
   | (with_reducible exact impl_OldValid.mono _ _ _ _ _ _ _ _)
   | (with_reducible exact LeO.refl _)
   | (with_reducible exact LeO.none _)
   | (with_reducible refine LeO.ite ?_ ?_)
   | (with_reducible refine LeO.bind ?_ (fun _=>?_))
   | exact ih0 _ _ _ _ _ _ _ _ _
   | exact impl_BatchValid.mono _ _ _ _ _ _ _
   | exact impl_OldValid.mono _ _ _ _ _ _ _ _
   | exact LeO.none _
   | refine LeO.ite ?_ ?_
   | refine LeO.bind ?_ (fun _=>?_)
theorem impl_OldTurn.mono : ∀ a0 a1 k,LeO (impl_OldTurn.f k a0 a1) (impl_OldTurn.f (k + 1) a0 a1):=by
 intro a0 a1 k
 have ih0:=impl_OldTurn.mono_l k
 unfold impl_OldTurn.f
 repeat' first
   | (with_reducible exact ih0 _ _ _ _ _ _ _ _ _)
   | (with_reducible exact impl_BatchValid.mono _ _ _ _ _ _ _)
   | (with_reducible exact impl_OldValid.mono _ _ _ _ _ _ _ _)
   | (with_reducible exact LeO.refl _)
   | (with_reducible exact LeO.none _)
   | (with_reducible refine LeO.ite ?_ ?_)
   | (with_reducible refine LeO.bind ?_ (fun _=>?_))
   | exact ih0 _ _ _ _ _ _ _ _ _
   | exact impl_BatchValid.mono _ _ _ _ _ _ _
   | exact impl_OldValid.mono _ _ _ _ _ _ _ _
   | exact LeO.none _
   | refine LeO.ite ?_ ?_
   | refine LeO.bind ?_ (fun _=>?_)
def impl_OldTurn.T9 : Bool × List (List Nat × List Nat):=(true,[([],[]),([0],[0]),([],[]),([2],[2]),([3],[3]),([1,4,3],[1,4]),([0,1,2,3,4,5],[]),([6,5,5,0,1,2,3,4,5],[5,6])])
def impl_OldTurn.B9 : List Nat:=[0,1,0,4,12,31,63,127]
theorem impl_OldTurn.tab9 : rtab .any (opsOf Try.f25 9)=impl_OldTurn.T9:=by kernel_rfl
theorem impl_OldTurn.bits9 : waitsOk impl_OldTurn.T9.2 impl_OldTurn.B9=true:=by kernel_rfl
set_option maxHeartbeats 8000000 in
set_option maxRecDepth 100000 in
theorem impl_OldTurn.calls (k : Nat) (A0 : Option Addr) (c0 : Nat) (l0 : List (S26)) (a1 : Bool) (r1 : Bool) (r2 : Bool) (r3 : Int) (r4 : Int) (r5 : Int) (r6 : List (S57)) (r7 : Bool) (w : World) (hr0 : Kd.C k26 w A0 l0.length l0) (hc0 : l0.length ≤ c0) (h : impl_OldTurn.f k l0 a1=some (r1,r2,r3,r4,r5,r6,r7)) :
  Calls Try.prog 25 #[.slice A0 l0.length c0,.bool a1] w fun e w'=>∃ v5_ : Value,e = .returned (.tuple #[.agg #[.bool r1,.bool r2,.int .i64 r3,.int .i64 r4,.int .i64 r5,v5_],.bool r7])∧Kd.S k57 57 w' w.heap.size (fun _=>True) v5_ r6∧Below w.heap.size w w':=by
 have hu39:=Try.underlying39
 have hu26:=Try.underlying26
 have HR0:=Aside0.mk hr0
 have HC0:=Aside0.mk hc0
 clear hr0 hc0
 have HB:=Aside0.mk (Below.refl w.heap.size w)
 have H : (if (l0.length : Int) > 6 then (some (false,false,0,0,0,([] : List (S57)),false)) else (impl_OldTurn.l0 k l0 (l0.length : Int) 0 a1 false 255 0 0 ([] : List (S57))))=some (r1,r2,r3,r4,r5,r6,r7):=h
 clear h
 by_cases c3 : (l0.length : Int) > 6
 ·rw [if_pos c3] at H
  have c3b0 : decide (6 < (l0.length : Int))=true:=decide_eq_true c3
  have c3b1 : decide (6 < l0.length)=true:=decide_eq_true (by omega)
  clear c3
  simp only [Option.some.injEq,Prod.mk.injEq] at H
  obtain ⟨rfl,rfl,rfl,rfl,rfl,rfl,rfl⟩:=H
  go_enter Try.func25,Try.ntmps25
  go_wp2_with (first|((with_reducible refine gate_dst (N:=4) rfl ?_);refine box_event ?hg (N:=4) ?hd (cs:=#[.bool false,.bool false,.int .i64 0,.int .i64 0,.int .i64 0,.slice none 0 0]) (t:=39) ?hr ?_;(case hd=>rfl);(case hg=>rfl);(case hr=>first|(go_simp;done)|(go_simp;rfl));intro gb194 hg w4 hbox hb;have n0_:=Aside0.mk (below_step (by repeat (first|(with_reducible first|exact HB.out|apply below_alloc|apply pw_below_drewN|apply below_drew1)|exact HB.out)) hb);have n1_:=Aside0.mk (hbox);have n2_:=Aside0.mk ((by rw [hg];exact (below_size (by repeat (first|(with_reducible first|exact HB.out|apply below_alloc|apply pw_below_drewN|apply below_drew1)|exact HB.out))) : w.heap.size ≤ gb194));have n3_:=Aside0.mk ((by rw [hg];exact (below_size (by repeat (first|(with_reducible first|exact HB.out|apply below_alloc|apply pw_below_drewN|apply below_drew1)|exact HB.out))) : w.heap.size ≤ gb194));clear HB;have HB:=n0_;have BK194:=n1_;have GW194:=n2_;have GE194:=n3_;clear n0_ n1_ n2_ n3_;clear hb hbox hg;have hcz5_0 : w4.cell? ⟨gb194,0,none⟩ = some (.bool false):=(blk_cell BK194.out 0).trans rfl;have hcz5_1 : w4.cell? ⟨gb194,1,none⟩ = some (.bool false):=(blk_cell BK194.out 1).trans rfl;have hcz5_2 : w4.cell? ⟨gb194,2,none⟩ = some (.int .i64 0):=(blk_cell BK194.out 2).trans rfl;have hcz5_3 : w4.cell? ⟨gb194,3,none⟩ = some (.int .i64 0):=(blk_cell BK194.out 3).trans rfl;have hcz5_4 : w4.cell? ⟨gb194,4,none⟩ = some (.int .i64 0):=(blk_cell BK194.out 4).trans rfl;have hcz5_5 : w4.cell? ⟨gb194,5,none⟩ = some (.slice none 0 0):=(blk_cell BK194.out 5).trans rfl;have hfz5_0:=blk_frozen BK194.out 0;have hfz5_1:=blk_frozen BK194.out 1;have hfz5_2:=blk_frozen BK194.out 2;have hfz5_3:=blk_frozen BK194.out 3;have hfz5_4:=blk_frozen BK194.out 4;have hfz5_5:=blk_frozen BK194.out 5))
  refine bodyPost_ret (results_ct rfl _ _ gb194 39 #[.bool false,.bool false,.int .i64 0,.int .i64 0,.int .i64 0,.slice none 0 0] (0,0) _ rfl (by (with_reducible repeat (first|refine blk_drewN ?_ _|refine blk_drew ?_|refine blk_alloc ?_ _));refine blk_put (cs:=#[.bool false,.bool false,.int .i64 0,.int .i64 0,.int .i64 0,.slice none 0 0]) ?_ 5 _ rfl;(with_reducible repeat (first|refine blk_drewN ?_ _|refine blk_drew ?_|refine blk_alloc ?_ _));refine blk_put (cs:=#[.bool false,.bool false,.int .i64 0,.int .i64 0,.int .i64 0,.slice none 0 0]) ?_ 4 _ rfl;(with_reducible repeat (first|refine blk_drewN ?_ _|refine blk_drew ?_|refine blk_alloc ?_ _));refine blk_put (cs:=#[.bool false,.bool false,.int .i64 0,.int .i64 0,.int .i64 0,.slice none 0 0]) ?_ 3 _ rfl;(with_reducible repeat (first|refine blk_drewN ?_ _|refine blk_drew ?_|refine blk_alloc ?_ _));refine blk_put (cs:=#[.bool false,.bool false,.int .i64 0,.int .i64 0,.int .i64 0,.slice none 0 0]) ?_ 2 _ rfl;(with_reducible repeat (first|refine blk_drewN ?_ _|refine blk_drew ?_|refine blk_alloc ?_ _));refine blk_put (cs:=#[.bool false,.bool false,.int .i64 0,.int .i64 0,.int .i64 0,.slice none 0 0]) ?_ 1 _ rfl;(with_reducible repeat (first|refine blk_drewN ?_ _|refine blk_drew ?_|refine blk_alloc ?_ _));refine blk_put (cs:=#[.bool false,.bool false,.int .i64 0,.int .i64 0,.int .i64 0,.slice none 0 0]) ?_ 0 _ rfl;(with_reducible repeat (first|refine blk_drewN ?_ _|refine blk_drew ?_|refine blk_alloc ?_ _));exact BK194.out) Try.underlying39 rfl (by kernel_rfl)) rfl ?_
  exact ⟨_,by first|rfl|(simp [errW_none,errW_some] <;> rfl)|(simp [*,errW_none,errW_some] <;> rfl),by first|exact Kd.S_nil _ _ _ _ _|exact Kd.N_nil _ _ _ _ _|exact Kd.V_nil _ _ _ _ _|exact Kd.Q_nil _ _ _ _ _|exact Kd.R_nil _ _ _ _ _,by repeat (first|(with_reducible first|exact HB.out|apply below_alloc|apply pw_below_drewN|apply below_drew1|refine below_set ?_ GE194.out)|exact HB.out)⟩
 ·rw [if_neg c3] at H
  have c3b0 : decide (6 < (l0.length : Int))=false:=decide_eq_false c3
  have c3b1 : decide (6 < l0.length)=false:=decide_eq_false (by omega)
  clear c3
  have H':=Aside0.mk H
  clear H
  go_enter Try.func25,Try.ntmps25
  go_wp2_with (first|((with_reducible refine gate_dst (N:=4) rfl ?_);refine box_event ?hg (N:=4) ?hd (cs:=#[.bool false,.bool false,.int .i64 0,.int .i64 0,.int .i64 0,.slice none 0 0]) (t:=39) ?hr ?_;(case hd=>rfl);(case hg=>rfl);(case hr=>first|(go_simp;done)|(go_simp;rfl));intro gb194 hg w6 hbox hb;have n0_:=Aside0.mk (below_step (by repeat (first|(with_reducible first|exact HB.out|apply below_alloc|apply pw_below_drewN|apply below_drew1)|exact HB.out)) hb);have n1_:=Aside0.mk (hbox);have n2_:=Aside0.mk ((by rw [hg];exact (below_size (by repeat (first|(with_reducible first|exact HB.out|apply below_alloc|apply pw_below_drewN|apply below_drew1)|exact HB.out))) : w.heap.size ≤ gb194));have n3_:=Aside0.mk ((by rw [hg];exact (below_size (by repeat (first|(with_reducible first|exact HB.out|apply below_alloc|apply pw_below_drewN|apply below_drew1)|exact HB.out))) : w.heap.size ≤ gb194));clear HB;have HB:=n0_;have BK194:=n1_;have GW194:=n2_;have GE194:=n3_;clear n0_ n1_ n2_ n3_;clear hb hbox hg)|((with_reducible refine gate_dst (N:=6) rfl ?_);refine box_event ?hg (N:=6) ?hd (cs:=#[.bool false,.bool false,.int .i64 0,.int .i64 0,.int .i64 0,.slice none 0 0]) (t:=39) ?hr ?_;(case hd=>rfl);(case hg=>rfl);(case hr=>first|(go_simp;done)|(go_simp;rfl));intro gb195 hg w7 hbox hb;have n0_:=Aside0.mk (blk_below (g:=gb194) (o:=.cells #[.bool false,.bool false,.int .i64 0,.int .i64 0,.int .i64 0,.slice none 0 0] 39 (0,0)) (by (with_reducible repeat (first|refine blk_drewN ?_ _|refine blk_drew ?_|refine blk_alloc ?_ _));exact BK194.out) hb);have n1_:=Aside0.mk (below_step (by repeat (first|(with_reducible first|exact HB.out|apply below_alloc|apply pw_below_drewN|apply below_drew1|refine below_set ?_ GE194.out)|exact HB.out)) hb);have n2_:=Aside0.mk (hbox);have n3_:=Aside0.mk ((by rw [hg];exact (below_size (by repeat (first|(with_reducible first|exact HB.out|apply below_alloc|apply pw_below_drewN|apply below_drew1|refine below_set ?_ GE194.out)|exact HB.out))) : w.heap.size ≤ gb195));have n4_:=Aside0.mk ((by rw [hg];exact (below_size (by repeat (first|(with_reducible first|exact HB.out|apply below_alloc|apply pw_below_drewN|apply below_drew1|refine below_set ?_ GE194.out)|exact HB.out))) : w.heap.size ≤ gb195));have n5_:=Aside0.mk ((by rw [hg];exact Nat.ne_of_lt (blk_lt (g:=gb194) (o:=.cells #[.bool false,.bool false,.int .i64 0,.int .i64 0,.int .i64 0,.slice none 0 0] 39 (0,0)) (by (with_reducible repeat (first|refine blk_drewN ?_ _|refine blk_drew ?_|refine blk_alloc ?_ _));exact BK194.out)) : gb194 ≠ gb195));have n6_:=Aside0.mk ((by rw [hg];exact Nat.ne_of_gt (blk_lt (g:=gb194) (o:=.cells #[.bool false,.bool false,.int .i64 0,.int .i64 0,.int .i64 0,.slice none 0 0] 39 (0,0)) (by (with_reducible repeat (first|refine blk_drewN ?_ _|refine blk_drew ?_|refine blk_alloc ?_ _));exact BK194.out)) : gb195 ≠ gb194));clear BK194;clear HB;have BK194:=n0_;have HB:=n1_;have BK195:=n2_;have GW195:=n3_;have GE195:=n4_;have NB194_195:=n5_;have NB195_194:=n6_;clear n0_ n1_ n2_ n3_ n4_ n5_ n6_;clear hb hbox hg;have hnb8:=NB195_194.out;have hnc8:=NB194_195.out;have hcz9_0 : w7.cell? ⟨gb195,0,none⟩ = some (.bool false):=(blk_cell BK195.out 0).trans rfl;have hcz9_1 : w7.cell? ⟨gb195,1,none⟩ = some (.bool false):=(blk_cell BK195.out 1).trans rfl;have hcz9_2 : w7.cell? ⟨gb195,2,none⟩ = some (.int .i64 0):=(blk_cell BK195.out 2).trans rfl;have hcz9_3 : w7.cell? ⟨gb195,3,none⟩ = some (.int .i64 0):=(blk_cell BK195.out 3).trans rfl;have hcz9_4 : w7.cell? ⟨gb195,4,none⟩ = some (.int .i64 0):=(blk_cell BK195.out 4).trans rfl;have hcz9_5 : w7.cell? ⟨gb195,5,none⟩ = some (.slice none 0 0):=(blk_cell BK195.out 5).trans rfl;have hfz9_0:=blk_frozen BK195.out 0;have hfz9_1:=blk_frozen BK195.out 1;have hfz9_2:=blk_frozen BK195.out 2;have hfz9_3:=blk_frozen BK195.out 3;have hfz9_4:=blk_frozen BK195.out 4;have hfz9_5:=blk_frozen BK195.out 5))
  go_loopg [17] k (fun kq v17 w'=>∃ (x17_1 : Int) (x195000_1 : Bool) (x195001_1 : Bool) (x195002_1 : Int) (x195003_1 : Int) (x195004_1 : Int) (x196005_1 : List (S57)) (u196005 : Value),v17 = .int .i64 x17_1∧Aside0 (impl_OldTurn.l0 kq l0 (l0.length : Int) x17_1 a1 false 255 0 0 x196005_1=some (r1,r2,r3,r4,r5,r6,r7))∧Aside0 (kq ≤ k)∧Aside0 (Kd.S k57 57 w' w.heap.size (fun _=>True) u196005 x196005_1)∧Aside0 (w'.heap[gb194]? = some (.cells #[.bool x195000_1,.bool x195001_1,.int .i64 x195002_1,.int .i64 x195003_1,.int .i64 x195004_1,(.slice none 0 0)] 39 (0,0)))∧Aside0 (w'.heap[gb195]? = some (.cells #[.bool a1,.bool false,.int .i64 255,.int .i64 0,.int .i64 0,u196005] 39 (0,0)))∧Aside0 (Below w.heap.size w w'))
  case atStart=>exact ⟨(0),(false),(false),(0),(0),(0),(([] : List (S57))),(.slice none 0 0),(by first|rfl|(simp;done)|(simp [*];done)),H',⟨Nat.le_refl _⟩,⟨by first|exact Kd.S_nil _ _ _ _ _|exact Kd.N_nil _ _ _ _ _|exact Kd.V_nil _ _ _ _ _|exact Kd.Q_nil _ _ _ _ _|exact Kd.R_nil _ _ _ _ _⟩,⟨by (with_reducible repeat (first|refine blk_drewN ?_ _|refine blk_drew ?_|refine blk_alloc ?_ _));refine blk_far ?_ NB194_195.out _;(with_reducible repeat (first|refine blk_drewN ?_ _|refine blk_drew ?_|refine blk_alloc ?_ _));refine blk_far ?_ NB194_195.out _;(with_reducible repeat (first|refine blk_drewN ?_ _|refine blk_drew ?_|refine blk_alloc ?_ _));refine blk_far ?_ NB194_195.out _;(with_reducible repeat (first|refine blk_drewN ?_ _|refine blk_drew ?_|refine blk_alloc ?_ _));refine blk_far ?_ NB194_195.out _;(with_reducible repeat (first|refine blk_drewN ?_ _|refine blk_drew ?_|refine blk_alloc ?_ _));refine blk_far ?_ NB194_195.out _;(with_reducible repeat (first|refine blk_drewN ?_ _|refine blk_drew ?_|refine blk_alloc ?_ _));refine blk_far ?_ NB194_195.out _;(with_reducible repeat (first|refine blk_drewN ?_ _|refine blk_drew ?_|refine blk_alloc ?_ _));exact BK194.out⟩,⟨by (with_reducible repeat (first|refine blk_drewN ?_ _|refine blk_drew ?_|refine blk_alloc ?_ _));refine blk_put (cs:=#[.bool a1,.bool false,.int .i64 255,.int .i64 0,.int .i64 0,.slice none 0 0]) ?_ 5 _ rfl;(with_reducible repeat (first|refine blk_drewN ?_ _|refine blk_drew ?_|refine blk_alloc ?_ _));refine blk_put (cs:=#[.bool a1,.bool false,.int .i64 255,.int .i64 0,.int .i64 0,.slice none 0 0]) ?_ 4 _ rfl;(with_reducible repeat (first|refine blk_drewN ?_ _|refine blk_drew ?_|refine blk_alloc ?_ _));refine blk_put (cs:=#[.bool a1,.bool false,.int .i64 255,.int .i64 0,.int .i64 0,.slice none 0 0]) ?_ 3 _ rfl;(with_reducible repeat (first|refine blk_drewN ?_ _|refine blk_drew ?_|refine blk_alloc ?_ _));refine blk_put (cs:=#[.bool a1,.bool false,.int .i64 0,.int .i64 0,.int .i64 0,.slice none 0 0]) ?_ 2 _ rfl;(with_reducible repeat (first|refine blk_drewN ?_ _|refine blk_drew ?_|refine blk_alloc ?_ _));refine blk_put (cs:=#[.bool a1,.bool false,.int .i64 0,.int .i64 0,.int .i64 0,.slice none 0 0]) ?_ 1 _ rfl;(with_reducible repeat (first|refine blk_drewN ?_ _|refine blk_drew ?_|refine blk_alloc ?_ _));refine blk_put (cs:=#[.bool false,.bool false,.int .i64 0,.int .i64 0,.int .i64 0,.slice none 0 0]) ?_ 0 _ rfl;(with_reducible repeat (first|refine blk_drewN ?_ _|refine blk_drew ?_|refine blk_alloc ?_ _));exact BK195.out⟩,⟨by repeat (first|(with_reducible first|exact HB.out|apply below_alloc|apply pw_below_drewN|apply below_drew1|refine below_set ?_ GE194.out|refine below_set ?_ GE195.out)|exact HB.out)⟩⟩
  case round =>
   clear H'
   try clear c2
   try clear p2
   try clear c3
   try clear c3b0
   try clear c3b1
   try clear c8
   try clear hcz5_0
   try clear hcz5_1
   try clear hcz5_2
   try clear hcz5_3
   try clear hcz5_4
   try clear hcz5_5
   try clear hcz9_0
   try clear hcz9_1
   try clear hcz9_2
   try clear hcz9_3
   try clear hcz9_4
   try clear hcz9_5
   try clear hfz5_0
   try clear hfz5_1
   try clear hfz5_2
   try clear hfz5_3
   try clear hfz5_4
   try clear hfz5_5
   try clear hfz9_0
   try clear hfz9_1
   try clear hfz9_2
   try clear hfz9_3
   try clear hfz9_4
   try clear hfz9_5
   obtain ⟨x17_1,x195000_1,x195001_1,x195002_1,x195003_1,x195004_1,x196005_1,u196005,rfl,HA,HK1,HO_196005,BK194,BK195,HB⟩:=hrel
   cases gk with
   | zero=>exact absurd HA.out (by simp [impl_OldTurn.l0])
   | succ k1 =>
    have H:=HA.out
    clear HA
    simp only [impl_OldTurn.l0] at H
    by_cases c10 : x17_1 < (l0.length : Int)
    ·rw [if_pos c10] at H
     have c10b0 : decide (x17_1 < (l0.length : Int))=true:=decide_eq_true c10
     clear c10
     by_cases c11 : 0 ≤ x17_1
     ·rw [if_pos c11] at H
      have c11b0 : decide (0 ≤ x17_1)=true:=decide_eq_true c11
      clear c11
      by_cases c12 : x17_1 < (l0.length : Int)
      ·rw [if_pos c12] at H
       have c12b0 : decide (x17_1 < (l0.length : Int))=true:=decide_eq_true c12
       clear c12
       replace H:=Option.bind_eq_some_iff.mp H
       obtain ⟨t199,A130,H⟩:=H
       replace H : (if t199=true then ((impl_Old_kept.f ((rd_T26 l0 x17_1).f0) ((rd_T26 l0 x17_1).f1) ((rd_T26 l0 x17_1).f2) ((rd_T26 l0 x17_1).f3) ((rd_T26 l0 x17_1).f4) ((rd_T26 l0 x17_1).f5) ((rd_T26 l0 x17_1).f6)).bind fun bt200=>(if x196005_1.length < 1759218604441 then (impl_OldTurn.l0 k1 l0 (l0.length : Int) (wrap64 (x17_1 + 1)) a1 false 255 0 0 (x196005_1 ++ [(⟨bt200.1,bt200.2.1,bt200.2.2.1,bt200.2.2.2.1,bt200.2.2.2.2.1,bt200.2.2.2.2.2⟩ : S57)])) else (none))) else (some (false,false,0,0,0,([] : List (S57)),false)))=some (r1,r2,r3,r4,r5,r6,r7):=H
       have A13:=Aside0.mk A130
       clear A130
       by_cases c14 : t199=true
       ·subst c14
        have H1 : ((impl_Old_kept.f ((rd_T26 l0 x17_1).f0) ((rd_T26 l0 x17_1).f1) ((rd_T26 l0 x17_1).f2) ((rd_T26 l0 x17_1).f3) ((rd_T26 l0 x17_1).f4) ((rd_T26 l0 x17_1).f5) ((rd_T26 l0 x17_1).f6)).bind fun bt200=>(if x196005_1.length < 1759218604441 then (impl_OldTurn.l0 k1 l0 (l0.length : Int) (wrap64 (x17_1 + 1)) a1 false 255 0 0 (x196005_1 ++ [(⟨bt200.1,bt200.2.1,bt200.2.2.1,bt200.2.2.2.1,bt200.2.2.2.2.1,bt200.2.2.2.2.2⟩ : S57)])) else (none)))=some (r1,r2,r3,r4,r5,r6,r7):=by rw [if_pos rfl] at H;exact H
        clear H
        have H:=H1
        clear H1
        replace H:=Option.bind_eq_some_iff.mp H
        obtain ⟨⟨t200,t201,t202,t203,t206,t207⟩,A150,H⟩:=H
        replace H : (if x196005_1.length < 1759218604441 then (impl_OldTurn.l0 k1 l0 (l0.length : Int) (wrap64 (x17_1 + 1)) a1 false 255 0 0 (x196005_1 ++ [(⟨t200,t201,t202,t203,t206,t207⟩ : S57)])) else (none))=some (r1,r2,r3,r4,r5,r6,r7):=H
        have A15:=Aside0.mk A150
        clear A150
        by_cases c16 : x196005_1.length < 1759218604441
        ·rw [if_pos c16] at H
         have LMc16:=Aside0.mk c16
         clear c16
         obtain ⟨y210,hy210⟩ : ∃ y_ : List (S57),y_=(x196005_1 ++ [(⟨t200,t201,t202,t203,t206,t207⟩ : S57)]):=⟨_,rfl⟩
         replace H : (impl_OldTurn.l0 k1 l0 (l0.length : Int) (wrap64 (x17_1 + 1)) a1 false 255 0 0 y210)=some (r1,r2,r3,r4,r5,r6,r7):=by first|(rw [hy210];with_reducible exact H)|(have H2_:=(Option.bind_some _ _).symm.trans H;rw [hy210];with_reducible exact H2_)|(have H2_:=(Option.bind_some _ _).symm.trans H;with_reducible exact H2_)|with_reducible exact H|(rw [hy210];exact H)|exact H
         have Ny210:=Aside0.mk hy210
         clear hy210
         have H':=Aside0.mk H
         clear H
         have p197 : 0 ≤ (x17_1 : Int):=of_decide_eq_true (by first|(with_reducible assumption)|assumption)
         have q197 : x17_1 < (l0.length : Int):=of_decide_eq_true (by first|(with_reducible assumption)|assumption)
         obtain ⟨ad197,A197_3,c197_3,A197_4,c197_4,e197,hx197_0,hx197_1,hx197_2,hx197_3,hx197_4,hx197_5,hx197_6,hl197_3,hi197_3,hl197_4,hi197_4⟩:=at_T26 HR0.out x17_1 p197 q197
         cases e197
         replace hx197_0:=(HB.out.cell (World.block_lt_of_cell? w _ hx197_0)).trans hx197_0
         replace hx197_1:=(HB.out.cell (World.block_lt_of_cell? w _ hx197_1)).trans hx197_1
         replace hx197_2:=(HB.out.cell (World.block_lt_of_cell? w _ hx197_2)).trans hx197_2
         replace hx197_3:=(HB.out.cell (World.block_lt_of_cell? w _ hx197_3)).trans hx197_3
         replace hx197_4:=(HB.out.cell (World.block_lt_of_cell? w _ hx197_4)).trans hx197_4
         replace hx197_5:=(HB.out.cell (World.block_lt_of_cell? w _ hx197_5)).trans hx197_5
         replace hx197_6:=(HB.out.cell (World.block_lt_of_cell? w _ hx197_6)).trans hx197_6
         have HR197_3:=Aside0.mk hi197_3
         have HC197_3:=Aside0.mk hl197_3
         clear hi197_3 hl197_3
         have HR197_4:=Aside0.mk hi197_4
         have HC197_4:=Aside0.mk hl197_4
         clear hi197_4 hl197_4
         replace p197:=eq_true p197
         replace q197:=eq_true q197
         try go_wp2_with (first|((with_reducible refine gate_dst (N:=8) rfl ?_);refine box_event ?hg (N:=8) ?hd (cs:=#[.int .i64 0,.bool false,.int .i64 0,.slice none 0 0,.slice none 0 0,.bool false,.bool false]) (t:=26) ?hr ?_;(case hd=>rfl);(case hg=>rfl);(case hr=>first|(go_simp;done)|(go_simp;rfl));intro gb198 hg w17 hbox hb;have n0_:=Aside0.mk (Kd.S_below (by (with_reducible repeat (first|apply Kd.S_alloc|apply Kd.S_drewN|apply Kd.S_drew));exact HO_196005.out) hb);have n1_:=Aside0.mk (blk_below (g:=gb194) (o:=.cells #[.bool x195000_1,.bool x195001_1,.int .i64 x195002_1,.int .i64 x195003_1,.int .i64 x195004_1,.slice none 0 0] 39 (0,0)) (by (with_reducible repeat (first|refine blk_drewN ?_ _|refine blk_drew ?_|refine blk_alloc ?_ _));exact BK194.out) hb);have n2_:=Aside0.mk (blk_below (g:=gb195) (o:=.cells #[.bool a1,.bool false,.int .i64 255,.int .i64 0,.int .i64 0,u196005] 39 (0,0)) (by (with_reducible repeat (first|refine blk_drewN ?_ _|refine blk_drew ?_|refine blk_alloc ?_ _));exact BK195.out) hb);have n3_:=Aside0.mk (below_step (by repeat (first|(with_reducible first|exact HB.out|apply below_alloc|apply pw_below_drewN|apply below_drew1|refine below_set ?_ GE194.out|refine below_set ?_ GE195.out)|exact HB.out)) hb);have n4_:=Aside0.mk (hbox);have n5_:=Aside0.mk ((by rw [hg];exact (below_size (by repeat (first|(with_reducible first|exact HB.out|apply below_alloc|apply pw_below_drewN|apply below_drew1|refine below_set ?_ GE194.out|refine below_set ?_ GE195.out)|exact HB.out))) : w.heap.size ≤ gb198));have n6_:=Aside0.mk ((by rw [hg];exact (below_size (by repeat (first|(with_reducible first|exact HB.out|apply below_alloc|apply pw_below_drewN|apply below_drew1|refine below_set ?_ GE194.out|refine below_set ?_ GE195.out)|exact HB.out))) : w.heap.size ≤ gb198));have n7_:=Aside0.mk ((by rw [hg];exact Nat.ne_of_lt (blk_lt (g:=gb194) (o:=.cells #[.bool x195000_1,.bool x195001_1,.int .i64 x195002_1,.int .i64 x195003_1,.int .i64 x195004_1,.slice none 0 0] 39 (0,0)) (by (with_reducible repeat (first|refine blk_drewN ?_ _|refine blk_drew ?_|refine blk_alloc ?_ _));exact BK194.out)) : gb194 ≠ gb198));have n8_:=Aside0.mk ((by rw [hg];exact Nat.ne_of_gt (blk_lt (g:=gb194) (o:=.cells #[.bool x195000_1,.bool x195001_1,.int .i64 x195002_1,.int .i64 x195003_1,.int .i64 x195004_1,.slice none 0 0] 39 (0,0)) (by (with_reducible repeat (first|refine blk_drewN ?_ _|refine blk_drew ?_|refine blk_alloc ?_ _));exact BK194.out)) : gb198 ≠ gb194));have n9_:=Aside0.mk ((by rw [hg];exact Nat.ne_of_lt (blk_lt (g:=gb195) (o:=.cells #[.bool a1,.bool false,.int .i64 255,.int .i64 0,.int .i64 0,u196005] 39 (0,0)) (by (with_reducible repeat (first|refine blk_drewN ?_ _|refine blk_drew ?_|refine blk_alloc ?_ _));exact BK195.out)) : gb195 ≠ gb198));have n10_:=Aside0.mk ((by rw [hg];exact Nat.ne_of_gt (blk_lt (g:=gb195) (o:=.cells #[.bool a1,.bool false,.int .i64 255,.int .i64 0,.int .i64 0,u196005] 39 (0,0)) (by (with_reducible repeat (first|refine blk_drewN ?_ _|refine blk_drew ?_|refine blk_alloc ?_ _));exact BK195.out)) : gb198 ≠ gb195));clear HO_196005;clear BK194;clear BK195;clear HB;have HO_196005:=n0_;have BK194:=n1_;have BK195:=n2_;have HB:=n3_;have BK198:=n4_;have GW198:=n5_;have GE198:=n6_;have NB194_198:=n7_;have NB198_194:=n8_;have NB195_198:=n9_;have NB198_195:=n10_;clear n0_ n1_ n2_ n3_ n4_ n5_ n6_ n7_ n8_ n9_ n10_;clear hb hbox hg;have hnb18:=NB198_194.out;have hnc18:=NB194_198.out;have hnb19:=NB198_195.out;have hnc19:=NB195_198.out;have hcz20_0 : w17.cell? ⟨gb198,0,none⟩ = some (.int .i64 0):=(blk_cell BK198.out 0).trans rfl;have hcz20_1 : w17.cell? ⟨gb198,1,none⟩ = some (.bool false):=(blk_cell BK198.out 1).trans rfl;have hcz20_2 : w17.cell? ⟨gb198,2,none⟩ = some (.int .i64 0):=(blk_cell BK198.out 2).trans rfl;have hcz20_3 : w17.cell? ⟨gb198,3,none⟩ = some (.slice none 0 0):=(blk_cell BK198.out 3).trans rfl;have hcz20_4 : w17.cell? ⟨gb198,4,none⟩ = some (.slice none 0 0):=(blk_cell BK198.out 4).trans rfl;have hcz20_5 : w17.cell? ⟨gb198,5,none⟩ = some (.bool false):=(blk_cell BK198.out 5).trans rfl;have hcz20_6 : w17.cell? ⟨gb198,6,none⟩ = some (.bool false):=(blk_cell BK198.out 6).trans rfl;have hfz20_0:=blk_frozen BK198.out 0;have hfz20_1:=blk_frozen BK198.out 1;have hfz20_2:=blk_frozen BK198.out 2;have hfz20_3:=blk_frozen BK198.out 3;have hfz20_4:=blk_frozen BK198.out 4;have hfz20_5:=blk_frozen BK198.out 5;have hfz20_6:=blk_frozen BK198.out 6)|((with_reducible refine gate_callee (f:=20) rfl ?_);refine goesL_ (some 22) rfl rfl Try.func20 (by kernel_rfl) rfl #[.agg #[.int .i64 ((rd_T26 l0 x17_1).f0),.bool ((rd_T26 l0 x17_1).f1),.int .i64 ((rd_T26 l0 x17_1).f2),.slice A197_3 ((rd_T26 l0 x17_1).f3).length c197_3,.slice A197_4 ((rd_T26 l0 x17_1).f4).length c197_4,.bool ((rd_T26 l0 x17_1).f5),.bool ((rd_T26 l0 x17_1).f6)]] rfl (by (try simp only [List.map_toArray,List.map_cons,List.map_nil]);first|done|rfl|(simp only [List.length_drop,List.length_take];rfl)) ?_;(with_reducible refine (impl_OldValid.calls k1 ((rd_T26 l0 x17_1).f0) ((rd_T26 l0 x17_1).f1) ((rd_T26 l0 x17_1).f2) _ _ ((rd_T26 l0 x17_1).f3) _ _ ((rd_T26 l0 x17_1).f4) ((rd_T26 l0 x17_1).f5) ((rd_T26 l0 x17_1).f6) true _ ?side1 ?side2 ?side3 ?side4 A13.out).mono ?_);(case side1=>exact Kd.C_below HR197_3.out (by repeat (first|(with_reducible first|exact HB.out|apply below_alloc|apply pw_below_drewN|apply below_drew1|refine below_set ?_ GE194.out|refine below_set ?_ GE195.out|refine below_set ?_ GE198.out)|exact HB.out)));(case side2=>exact HC197_3.out);(case side3=>exact Kd.C_below HR197_4.out (by repeat (first|(with_reducible first|exact HB.out|apply below_alloc|apply pw_below_drewN|apply below_drew1|refine below_set ?_ GE194.out|refine below_set ?_ GE195.out|refine below_set ?_ GE198.out)|exact HB.out)));(case side4=>exact HC197_4.out);rintro e w21 ⟨rfl,hb⟩;refine ⟨_,rfl,?_⟩;have n0_:=Aside0.mk (Kd.S_below (by (with_reducible repeat (first|apply Kd.S_alloc|apply Kd.S_drewN|apply Kd.S_drew));exact (Kd.S_mono (Kd.S_far (p:=⟨gb198,6,none⟩) (Kd.S_far (p:=⟨gb198,5,none⟩) (Kd.S_far (p:=⟨gb198,4,none⟩) (Kd.S_far (p:=⟨gb198,3,none⟩) (Kd.S_far (p:=⟨gb198,2,none⟩) (Kd.S_far (p:=⟨gb198,1,none⟩) (Kd.S_far (p:=⟨gb198,0,none⟩) (Kd.S_types HO_196005.out BK198.out (by decide)) (fun _ hk=>hk.2) (.int .i64 ((rd_T26 l0 x17_1).f0))) (fun _ hk=>hk.2) (.bool ((rd_T26 l0 x17_1).f1))) (fun _ hk=>hk.2) (.int .i64 ((rd_T26 l0 x17_1).f2))) (fun _ hk=>hk.2) (.slice A197_3 ((rd_T26 l0 x17_1).f3).length c197_3)) (fun _ hk=>hk.2) (.slice A197_4 ((rd_T26 l0 x17_1).f4).length c197_4)) (fun _ hk=>hk.2) (.bool ((rd_T26 l0 x17_1).f5))) (fun _ hk=>hk.2) (.bool ((rd_T26 l0 x17_1).f6))) (fun _ h_=>h_.1))) hb);have n1_:=Aside0.mk (blk_below (g:=gb194) (o:=.cells #[.bool x195000_1,.bool x195001_1,.int .i64 x195002_1,.int .i64 x195003_1,.int .i64 x195004_1,.slice none 0 0] 39 (0,0)) (by (with_reducible repeat (first|refine blk_drewN ?_ _|refine blk_drew ?_|refine blk_alloc ?_ _));refine blk_far ?_ NB194_198.out _;(with_reducible repeat (first|refine blk_drewN ?_ _|refine blk_drew ?_|refine blk_alloc ?_ _));refine blk_far ?_ NB194_198.out _;(with_reducible repeat (first|refine blk_drewN ?_ _|refine blk_drew ?_|refine blk_alloc ?_ _));refine blk_far ?_ NB194_198.out _;(with_reducible repeat (first|refine blk_drewN ?_ _|refine blk_drew ?_|refine blk_alloc ?_ _));refine blk_far ?_ NB194_198.out _;(with_reducible repeat (first|refine blk_drewN ?_ _|refine blk_drew ?_|refine blk_alloc ?_ _));refine blk_far ?_ NB194_198.out _;(with_reducible repeat (first|refine blk_drewN ?_ _|refine blk_drew ?_|refine blk_alloc ?_ _));refine blk_far ?_ NB194_198.out _;(with_reducible repeat (first|refine blk_drewN ?_ _|refine blk_drew ?_|refine blk_alloc ?_ _));refine blk_far ?_ NB194_198.out _;(with_reducible repeat (first|refine blk_drewN ?_ _|refine blk_drew ?_|refine blk_alloc ?_ _));exact BK194.out) hb);have n2_:=Aside0.mk (blk_below (g:=gb195) (o:=.cells #[.bool a1,.bool false,.int .i64 255,.int .i64 0,.int .i64 0,u196005] 39 (0,0)) (by (with_reducible repeat (first|refine blk_drewN ?_ _|refine blk_drew ?_|refine blk_alloc ?_ _));refine blk_far ?_ NB195_198.out _;(with_reducible repeat (first|refine blk_drewN ?_ _|refine blk_drew ?_|refine blk_alloc ?_ _));refine blk_far ?_ NB195_198.out _;(with_reducible repeat (first|refine blk_drewN ?_ _|refine blk_drew ?_|refine blk_alloc ?_ _));refine blk_far ?_ NB195_198.out _;(with_reducible repeat (first|refine blk_drewN ?_ _|refine blk_drew ?_|refine blk_alloc ?_ _));refine blk_far ?_ NB195_198.out _;(with_reducible repeat (first|refine blk_drewN ?_ _|refine blk_drew ?_|refine blk_alloc ?_ _));refine blk_far ?_ NB195_198.out _;(with_reducible repeat (first|refine blk_drewN ?_ _|refine blk_drew ?_|refine blk_alloc ?_ _));refine blk_far ?_ NB195_198.out _;(with_reducible repeat (first|refine blk_drewN ?_ _|refine blk_drew ?_|refine blk_alloc ?_ _));refine blk_far ?_ NB195_198.out _;(with_reducible repeat (first|refine blk_drewN ?_ _|refine blk_drew ?_|refine blk_alloc ?_ _));exact BK195.out) hb);have n3_:=Aside0.mk (blk_below (g:=gb198) (o:=.cells #[.int .i64 ((rd_T26 l0 x17_1).f0),.bool ((rd_T26 l0 x17_1).f1),.int .i64 ((rd_T26 l0 x17_1).f2),.slice A197_3 ((rd_T26 l0 x17_1).f3).length c197_3,.slice A197_4 ((rd_T26 l0 x17_1).f4).length c197_4,.bool ((rd_T26 l0 x17_1).f5),.bool ((rd_T26 l0 x17_1).f6)] 26 (0,0)) (by (with_reducible repeat (first|refine blk_drewN ?_ _|refine blk_drew ?_|refine blk_alloc ?_ _));refine blk_put (cs:=#[.int .i64 ((rd_T26 l0 x17_1).f0),.bool ((rd_T26 l0 x17_1).f1),.int .i64 ((rd_T26 l0 x17_1).f2),.slice A197_3 ((rd_T26 l0 x17_1).f3).length c197_3,.slice A197_4 ((rd_T26 l0 x17_1).f4).length c197_4,.bool ((rd_T26 l0 x17_1).f5),.bool false]) ?_ 6 _ rfl;(with_reducible repeat (first|refine blk_drewN ?_ _|refine blk_drew ?_|refine blk_alloc ?_ _));refine blk_put (cs:=#[.int .i64 ((rd_T26 l0 x17_1).f0),.bool ((rd_T26 l0 x17_1).f1),.int .i64 ((rd_T26 l0 x17_1).f2),.slice A197_3 ((rd_T26 l0 x17_1).f3).length c197_3,.slice A197_4 ((rd_T26 l0 x17_1).f4).length c197_4,.bool false,.bool false]) ?_ 5 _ rfl;(with_reducible repeat (first|refine blk_drewN ?_ _|refine blk_drew ?_|refine blk_alloc ?_ _));refine blk_put (cs:=#[.int .i64 ((rd_T26 l0 x17_1).f0),.bool ((rd_T26 l0 x17_1).f1),.int .i64 ((rd_T26 l0 x17_1).f2),.slice A197_3 ((rd_T26 l0 x17_1).f3).length c197_3,.slice none 0 0,.bool false,.bool false]) ?_ 4 _ rfl;(with_reducible repeat (first|refine blk_drewN ?_ _|refine blk_drew ?_|refine blk_alloc ?_ _));refine blk_put (cs:=#[.int .i64 ((rd_T26 l0 x17_1).f0),.bool ((rd_T26 l0 x17_1).f1),.int .i64 ((rd_T26 l0 x17_1).f2),.slice none 0 0,.slice none 0 0,.bool false,.bool false]) ?_ 3 _ rfl;(with_reducible repeat (first|refine blk_drewN ?_ _|refine blk_drew ?_|refine blk_alloc ?_ _));refine blk_put (cs:=#[.int .i64 ((rd_T26 l0 x17_1).f0),.bool ((rd_T26 l0 x17_1).f1),.int .i64 0,.slice none 0 0,.slice none 0 0,.bool false,.bool false]) ?_ 2 _ rfl;(with_reducible repeat (first|refine blk_drewN ?_ _|refine blk_drew ?_|refine blk_alloc ?_ _));refine blk_put (cs:=#[.int .i64 ((rd_T26 l0 x17_1).f0),.bool false,.int .i64 0,.slice none 0 0,.slice none 0 0,.bool false,.bool false]) ?_ 1 _ rfl;(with_reducible repeat (first|refine blk_drewN ?_ _|refine blk_drew ?_|refine blk_alloc ?_ _));refine blk_put (cs:=#[.int .i64 0,.bool false,.int .i64 0,.slice none 0 0,.slice none 0 0,.bool false,.bool false]) ?_ 0 _ rfl;(with_reducible repeat (first|refine blk_drewN ?_ _|refine blk_drew ?_|refine blk_alloc ?_ _));exact BK198.out) hb);have n4_:=Aside0.mk (below_step (by repeat (first|(with_reducible first|exact HB.out|apply below_alloc|apply pw_below_drewN|apply below_drew1|refine below_set ?_ GE194.out|refine below_set ?_ GE195.out|refine below_set ?_ GE198.out)|exact HB.out)) hb);clear HO_196005;clear BK194;clear BK195;clear BK198;clear HB;have HO_196005:=n0_;have BK194:=n1_;have BK195:=n2_;have BK198:=n3_;have HB:=n4_;clear n0_ n1_ n2_ n3_ n4_;(try clear hb);(try clear hb2);(try clear hk);(try clear hi)))
         have n0_:=Aside0.mk (Kd.S_drew HO_196005.out)
         have n1_:=Aside0.mk (blk_drew BK194.out)
         have n2_:=Aside0.mk (blk_drew BK195.out)
         have n3_:=Aside0.mk (blk_drew BK198.out)
         have n4_:=Aside0.mk (below_drew1 HB.out)
         clear HO_196005
         clear BK194
         clear BK195
         clear BK198
         clear HB
         have HO_196005:=n0_
         have BK194:=n1_
         have BK195:=n2_
         have BK198:=n3_
         have HB:=n4_
         clear n0_ n1_ n2_ n3_ n4_
         refine start_ (n:=8) (S:=fun w'=>w'.cell? ⟨gb195,0,none⟩ = some (.bool a1)∧w'.cell? ⟨gb195,1,none⟩ = some (.bool false)∧w'.cell? ⟨gb195,2,none⟩ = some (.int .i64 255)∧w'.cell? ⟨gb195,3,none⟩ = some (.int .i64 0)∧w'.cell? ⟨gb195,4,none⟩ = some (.int .i64 0)∧w'.cell? ⟨gb195,5,none⟩ = some (u196005)∧w'.cell? ⟨gb198,0,none⟩ = some (.int .i64 ((rd_T26 l0 x17_1).f0))∧w'.cell? ⟨gb198,1,none⟩ = some (.bool ((rd_T26 l0 x17_1).f1))∧w'.cell? ⟨gb198,2,none⟩ = some (.int .i64 ((rd_T26 l0 x17_1).f2))∧w'.cell? ⟨gb198,3,none⟩ = some (.slice A197_3 ((rd_T26 l0 x17_1).f3).length c197_3)∧w'.cell? ⟨gb198,4,none⟩ = some (.slice A197_4 ((rd_T26 l0 x17_1).f4).length c197_4)∧w'.cell? ⟨gb198,5,none⟩ = some (.bool ((rd_T26 l0 x17_1).f5))∧w'.cell? ⟨gb198,6,none⟩ = some (.bool ((rd_T26 l0 x17_1).f6))) (ds:=[7]) #[false,false,false,false,false,false,false,false] (by kernel_rfl) rfl rfl ⟨(blk_cell BK195.out 0).trans rfl,(blk_cell BK195.out 1).trans rfl,(blk_cell BK195.out 2).trans rfl,(blk_cell BK195.out 3).trans rfl,(blk_cell BK195.out 4).trans rfl,(blk_cell BK195.out 5).trans rfl,(blk_cell BK198.out 0).trans rfl,(blk_cell BK198.out 1).trans rfl,(blk_cell BK198.out 2).trans rfl,(blk_cell BK198.out 3).trans rfl,(blk_cell BK198.out 4).trans rfl,(blk_cell BK198.out 5).trans rfl,(blk_cell BK198.out 6).trans rfl⟩ (fun hHeld=>?_);refine with_tabW impl_OldTurn.tab9 impl_OldTurn.bits9 (fun HT_ HW_=>?_)
         generalize w21.drew=w22 at HO_196005 BK194 BK195 BK198 HB hHeld ⊢
         refine pure_ (i:=0) (N:=some 25) (v:=?_) (a':=?_) #[true,false,false,false,false,false,false,false] rfl rfl (any_of HT_.out (by kernel_rfl)) (fun _ _ _ h=>h) (Or.inl ⟨by rfl,?_⟩) ?_ ?_
         rotate_left
         ·intro w'
          go_simp
          with_reducible rfl
         rotate_left
         ·simp only [Act.put,List.setIfInBounds_toArray,List.set_cons_zero,List.set_cons_succ,i64_w,i32_w]
          rfl
         refine take_ (i:=1) (N:=some 26) (v:=?_) (a':=?_) #[true,true,false,false,false,false,false,false] rfl rfl (take_ofW HT_.out HW_.out (by kernel_rfl)) (fun _ _ _ h=>h) (Or.inl ⟨by rfl,?_⟩) hHeld ?_ ?_
         rotate_left
         ·rintro w' ⟨s0,s1,s2,s3,s4,s5,s6,s7,s8,s9,s10,s11,s12⟩
          go_simp
          with_reducible rfl
         rotate_left
         ·simp only [Act.put,List.setIfInBounds_toArray,List.set_cons_zero,List.set_cons_succ,i64_w,i32_w]
          rfl
         refine take_ (i:=2) (N:=some 27) (v:=?_) (a':=?_) #[true,true,true,false,false,false,false,false] rfl rfl (take_ofW HT_.out HW_.out (by kernel_rfl)) (fun _ _ _ h=>h) (Or.inl ⟨by rfl,?_⟩) hHeld ?_ ?_
         rotate_left
         ·rintro w' ⟨s0,s1,s2,s3,s4,s5,s6,s7,s8,s9,s10,s11,s12⟩
          go_simp
          with_reducible rfl
         rotate_left
         ·simp only [Act.put,List.setIfInBounds_toArray,List.set_cons_zero,List.set_cons_succ,i64_w,i32_w]
          rfl
         refine one_ (i:=3) (N:=some 28) #[true,true,true,true,false,false,false,false] rfl rfl (one_of HT_.out (by kernel_rfl)) (by decide) (fun K hK=>?_)
         refine goes_ Try.func63 (by kernel_rfl) rfl #[.agg #[.int .i64 ((rd_T26 l0 x17_1).f0),.bool ((rd_T26 l0 x17_1).f1),.int .i64 ((rd_T26 l0 x17_1).f2),.slice A197_3 ((rd_T26 l0 x17_1).f3).length c197_3,.slice A197_4 ((rd_T26 l0 x17_1).f4).length c197_4,.bool ((rd_T26 l0 x17_1).f5),.bool ((rd_T26 l0 x17_1).f6)]] (by rfl) rfl rfl (by (try simp only [List.map_toArray,List.map_cons,List.map_nil]);first|done|rfl|(simp only [List.length_drop,List.length_take];rfl)) ?_
         with_reducible refine (impl_Old_kept.calls ((rd_T26 l0 x17_1).f0) ((rd_T26 l0 x17_1).f1) ((rd_T26 l0 x17_1).f2) _ _ ((rd_T26 l0 x17_1).f3) _ _ ((rd_T26 l0 x17_1).f4) ((rd_T26 l0 x17_1).f5) ((rd_T26 l0 x17_1).f6) t200 t201 t202 t203 t206 t207 _ ?side1 ?side2 ?side3 ?side4 A15.out).mono ?_
         (case side1=>repeat (first|exact (Kd.C_below HR197_3.out HB.out)|(with_reducible refine Kd.C_alloc ?_ _)|(with_reducible refine Kd.C_drewN ?_ _)|(with_reducible refine Kd.C_drew ?_)))
         (case side2=>exact HC197_3.out)
         (case side3=>repeat (first|exact (Kd.C_below HR197_4.out HB.out)|(with_reducible refine Kd.C_alloc ?_ _)|(with_reducible refine Kd.C_drewN ?_ _)|(with_reducible refine Kd.C_drew ?_)))
         (case side4=>exact HC197_4.out)
         rintro e w23 ⟨v204,v208,rfl,ho0,ho1,hb⟩
         refine ⟨_,rfl,?_⟩
         have n0_:=Aside0.mk (Kd.S_mono (Kd.S_told (Kd.S_told (Kd.S_old (by (with_reducible repeat (first|apply Kd.S_alloc|apply Kd.S_drewN|apply Kd.S_drew));exact HO_196005.out) hb) (Kd.R_base ho0)) (Kd.R_base ho1)) (fun _ h_=>h_.1))
         have n1_:=Aside0.mk (Kd.R_lower ho0 (below_size (by repeat (first|(with_reducible first|exact HB.out|apply below_alloc|apply pw_below_drewN|apply below_drew1|refine below_set ?_ GE194.out|refine below_set ?_ GE195.out|refine below_set ?_ GE198.out)|exact HB.out))))
         have n2_:=Aside0.mk (Kd.R_lower ho1 (below_size (by repeat (first|(with_reducible first|exact HB.out|apply below_alloc|apply pw_below_drewN|apply below_drew1|refine below_set ?_ GE194.out|refine below_set ?_ GE195.out|refine below_set ?_ GE198.out)|exact HB.out))))
         have n3_:=Aside0.mk (blk_below (g:=gb194) (o:=.cells #[.bool x195000_1,.bool x195001_1,.int .i64 x195002_1,.int .i64 x195003_1,.int .i64 x195004_1,.slice none 0 0] 39 (0,0)) (by (with_reducible repeat (first|refine blk_drewN ?_ _|refine blk_drew ?_|refine blk_alloc ?_ _));exact BK194.out) hb)
         have n4_:=Aside0.mk (blk_below (g:=gb195) (o:=.cells #[.bool a1,.bool false,.int .i64 255,.int .i64 0,.int .i64 0,u196005] 39 (0,0)) (by (with_reducible repeat (first|refine blk_drewN ?_ _|refine blk_drew ?_|refine blk_alloc ?_ _));exact BK195.out) hb)
         have n5_:=Aside0.mk (blk_below (g:=gb198) (o:=.cells #[.int .i64 ((rd_T26 l0 x17_1).f0),.bool ((rd_T26 l0 x17_1).f1),.int .i64 ((rd_T26 l0 x17_1).f2),.slice A197_3 ((rd_T26 l0 x17_1).f3).length c197_3,.slice A197_4 ((rd_T26 l0 x17_1).f4).length c197_4,.bool ((rd_T26 l0 x17_1).f5),.bool ((rd_T26 l0 x17_1).f6)] 26 (0,0)) (by (with_reducible repeat (first|refine blk_drewN ?_ _|refine blk_drew ?_|refine blk_alloc ?_ _));exact BK198.out) hb)
         have n6_:=Aside0.mk (below_step (by repeat (first|(with_reducible first|exact HB.out|apply below_alloc|apply pw_below_drewN|apply below_drew1|refine below_set ?_ GE194.out|refine below_set ?_ GE195.out|refine below_set ?_ GE198.out)|exact HB.out)) hb)
         clear HO_196005
         clear BK194
         clear BK195
         clear BK198
         clear HB
         have HO_196005:=n0_
         have HO205:=n1_
         have HO209:=n2_
         have BK194:=n3_
         have BK195:=n4_
         have BK198:=n5_
         have HB:=n6_
         clear n0_ n1_ n2_ n3_ n4_ n5_ n6_
         (try clear hb)
         (try clear hb2)
         (try clear hk)
         (try clear hi)
         (try clear ho0)
         (try clear ho1)
         obtain ⟨Ao25,co25,eo25⟩:=Kd.R_slice HO205.out
         (first|subst eo25|(injection eo25 with f1_ f2_ f3_;have f4_:=f1_.symm;have f5_:=f3_.symm;clear f1_ f2_ f3_;subst f4_;subst f5_))
         obtain ⟨Ao26,co26,eo26⟩:=Kd.R_slice HO209.out
         (first|subst eo26|(injection eo26 with f1_ f2_ f3_;have f4_:=f1_.symm;have f5_:=f3_.symm;clear f1_ f2_ f3_;subst f4_;subst f5_))
         refine hK.out _ _ ⟨(blk_cell BK195.out 0).trans rfl,(blk_cell BK195.out 1).trans rfl,(blk_cell BK195.out 2).trans rfl,(blk_cell BK195.out 3).trans rfl,(blk_cell BK195.out 4).trans rfl,(blk_cell BK195.out 5).trans rfl,(blk_cell BK198.out 0).trans rfl,(blk_cell BK198.out 1).trans rfl,(blk_cell BK198.out 2).trans rfl,(blk_cell BK198.out 3).trans rfl,(blk_cell BK198.out 4).trans rfl,(blk_cell BK198.out 5).trans rfl,(blk_cell BK198.out 6).trans rfl⟩ (fun hHeld=>?_)
         clear hK K
         refine norm_ (a':=?_) ?_ ?_
         rotate_left
         ·show Act.put _ (some 28) _=_
          simp only [Act.put,List.setIfInBounds_toArray,List.set_cons_zero,List.set_cons_succ,i64_w,i32_w]
          rfl
         refine one_ (i:=4) (N:=some 29) #[true,true,true,true,true,false,false,false] rfl rfl (one_of HT_.out (by kernel_rfl)) (by decide) (fun K hK=>?_)
         refine value_ (w1:=?_) (v:=?_) (by rfl) rfl ?_ ?_
         rotate_left 2
         ·go_simp
          constructor
          ·rfl
          ·rfl
         refine hK.out _ _ ⟨(blk_cell (blk_alloc BK195.out _) 0).trans rfl,(blk_cell (blk_alloc BK195.out _) 1).trans rfl,(blk_cell (blk_alloc BK195.out _) 2).trans rfl,(blk_cell (blk_alloc BK195.out _) 3).trans rfl,(blk_cell (blk_alloc BK195.out _) 4).trans rfl,(blk_cell (blk_alloc BK195.out _) 5).trans rfl,(blk_cell (blk_alloc BK198.out _) 0).trans rfl,(blk_cell (blk_alloc BK198.out _) 1).trans rfl,(blk_cell (blk_alloc BK198.out _) 2).trans rfl,(blk_cell (blk_alloc BK198.out _) 3).trans rfl,(blk_cell (blk_alloc BK198.out _) 4).trans rfl,(blk_cell (blk_alloc BK198.out _) 5).trans rfl,(blk_cell (blk_alloc BK198.out _) 6).trans rfl⟩ (fun hHeld=>?_)
         clear hK K
         refine norm_ (a':=?_) ?_ ?_
         rotate_left
         ·show Act.put _ (some 29) _=_
          simp only [Act.put,List.setIfInBounds_toArray,List.set_cons_zero,List.set_cons_succ,i64_w,i32_w]
          rfl
         refine one_ (i:=5) (N:=some 30) #[true,true,true,true,true,true,false,false] rfl rfl (one_of HT_.out (by kernel_rfl)) (by decide) (fun K hK=>?_)
         refine Kd.S_append_step k57 (w0:=w) w.heap.size (by rfl) (.tmp 26) (.tmp 29) 37 57 (.agg #[(.int .i64 0),(.int .i64 0),(.bool false),(.slice none 0 0),(.bool false),(.slice none 0 0)]) 80 rfl Try.underlying37 info57 rfl (by decide) (by omega) u196005 x196005_1 (⟨t200,t201,t202,t203,t206,t207⟩ : S57) [.int .i64 t200,.int .i64 t201,.bool t202,.slice Ao25 t203.length co25,.bool t206,.slice Ao26 t207.length co26] (fun _=>True) (fun k_=>some k_=(.slice Ao25 t203.length co25 : Value).ownBlock ∨ some k_=(.slice Ao26 t207.length co26 : Value).ownBlock) rfl rfl ?aP (fun k_ hk_=>hk_.elim (fun h_=>((Kd.R_mono (ok':=fun k_=>((fun _=>True)) k_∧some k_ ≠ (u196005 : Value).ownBlock) (Kd.R_apart' (HO205.out) (Kd.S_typed HO_196005.out) (by decide)) (fun k_ hk=>⟨trivial,hk.2⟩))).1 k_ h_.symm) (fun h_=>((Kd.R_mono (ok':=fun k_=>((fun _=>True)) k_∧some k_ ≠ (u196005 : Value).ownBlock) (Kd.R_apart' (HO209.out) (Kd.S_typed HO_196005.out) (by decide)) (fun k_ hk=>⟨trivial,hk.2⟩))).1 k_ h_.symm)) ?aF ?aO ?aB ?aS ?aL ?_
         (case aP=>exact k57_mkM _ _ _ (⟨t200,t201,t202,t203,t206,t207⟩ : S57) (Kd.R_mono (Kd.R_tight rfl (Kd.R_mono (ok':=fun k_=>((fun _=>True)) k_∧some k_ ≠ (u196005 : Value).ownBlock) (Kd.R_apart' (HO205.out) (Kd.S_typed HO_196005.out) (by decide)) (fun k_ hk=>⟨trivial,hk.2⟩))) (fun _ h_=>Or.inl h_)) (Kd.R_mono (Kd.R_tight rfl (Kd.R_mono (ok':=fun k_=>((fun _=>True)) k_∧some k_ ≠ (u196005 : Value).ownBlock) (Kd.R_apart' (HO209.out) (Kd.S_typed HO_196005.out) (by decide)) (fun k_ hk=>⟨trivial,hk.2⟩))) (fun _ h_=>Or.inr (h_))))
         (case aB=>exact (by repeat (first|(with_reducible first|exact HB.out|apply below_alloc|apply pw_below_drewN|apply below_drew1|refine below_set ?_ GE194.out|refine below_set ?_ GE195.out|refine below_set ?_ GE198.out)|exact HB.out)))
         (case aF=>exact (fun _ _=>trivial))
         (case aO=>exact (by (with_reducible repeat (first|apply Kd.S_alloc|apply Kd.S_drewN|apply Kd.S_drew));exact Kd.S_mono HO_196005.out (fun k_ hk=>⟨trivial,fun e_=>e_.elim (fun h_=>hk.1.2 h_) (fun h_=>hk.2 h_)⟩)))
         (case aS=>exact (below_size (by repeat (first|(with_reducible first|exact HB.out|apply below_alloc|apply pw_below_drewN|apply below_drew1|refine below_set ?_ GE194.out|refine below_set ?_ GE195.out|refine below_set ?_ GE198.out)|exact HB.out))))
         (case aL=>have:=LMc16.out;omega)
         intro v211 w24 ho hb hg hat
         rw [← Ny210.out] at ho
         have n0_:=Aside0.mk (blk_grown (g:=gb194) (o:=.cells #[.bool x195000_1,.bool x195001_1,.int .i64 x195002_1,.int .i64 x195003_1,.int .i64 x195004_1,.slice none 0 0] 39 (0,0)) (by (with_reducible repeat (first|refine blk_drewN ?_ _|refine blk_drew ?_|refine blk_alloc ?_ _));exact BK194.out) hg (Kd.S_ne HO_196005.out BK194.out (by decide)))
         have n1_:=Aside0.mk (blk_grown (g:=gb195) (o:=.cells #[.bool a1,.bool false,.int .i64 255,.int .i64 0,.int .i64 0,u196005] 39 (0,0)) (by (with_reducible repeat (first|refine blk_drewN ?_ _|refine blk_drew ?_|refine blk_alloc ?_ _));exact BK195.out) hg (Kd.S_ne HO_196005.out BK195.out (by decide)))
         have n2_:=Aside0.mk (blk_grown (g:=gb198) (o:=.cells #[.int .i64 ((rd_T26 l0 x17_1).f0),.bool ((rd_T26 l0 x17_1).f1),.int .i64 ((rd_T26 l0 x17_1).f2),.slice A197_3 ((rd_T26 l0 x17_1).f3).length c197_3,.slice A197_4 ((rd_T26 l0 x17_1).f4).length c197_4,.bool ((rd_T26 l0 x17_1).f5),.bool ((rd_T26 l0 x17_1).f6)] 26 (0,0)) (by (with_reducible repeat (first|refine blk_drewN ?_ _|refine blk_drew ?_|refine blk_alloc ?_ _));exact BK198.out) hg (Kd.S_ne HO_196005.out BK198.out (by decide)))
         have n3_:=Aside0.mk (hb)
         have n4_:=Aside0.mk (ho)
         clear BK194
         clear BK195
         clear BK198
         clear HB
         clear HO_196005
         clear HO205
         clear HO209
         have BK194:=n0_
         have BK195:=n1_
         have BK198:=n2_
         have HB:=n3_
         have HO212:=n4_
         clear n0_ n1_ n2_ n3_ n4_
         clear ho hb hg hat
         obtain ⟨Ao27,co27,eo27⟩:=Kd.S_slice HO212.out
         (first|subst eo27|(injection eo27 with f1_ f2_ f3_;have f4_:=f1_.symm;have f5_:=f3_.symm;clear f1_ f2_ f3_;subst f4_;subst f5_))
         refine hK.out _ _ ⟨(blk_cell BK195.out 0).trans rfl,(blk_cell BK195.out 1).trans rfl,(blk_cell BK195.out 2).trans rfl,(blk_cell BK195.out 3).trans rfl,(blk_cell BK195.out 4).trans rfl,(blk_cell BK195.out 5).trans rfl,(blk_cell BK198.out 0).trans rfl,(blk_cell BK198.out 1).trans rfl,(blk_cell BK198.out 2).trans rfl,(blk_cell BK198.out 3).trans rfl,(blk_cell BK198.out 4).trans rfl,(blk_cell BK198.out 5).trans rfl,(blk_cell BK198.out 6).trans rfl⟩ (fun hHeld=>?_)
         clear hK K
         refine norm_ (a':=?_) ?_ ?_
         rotate_left
         ·show Act.put _ (some 30) _=_
          simp only [Act.put,List.setIfInBounds_toArray,List.set_cons_zero,List.set_cons_succ,i64_w,i32_w]
          rfl
         refine pure_ (i:=6) (N:=some 31) (v:=?_) (a':=?_) #[true,true,true,true,true,true,true,false] rfl rfl (any_of HT_.out (by kernel_rfl)) (fun _ _ _ h=>h) (Or.inl ⟨by rfl,?_⟩) ?_ ?_
         rotate_left
         ·intro w'
          go_simp
          with_reducible rfl
         rotate_left
         ·simp only [Act.put,List.setIfInBounds_toArray,List.set_cons_zero,List.set_cons_succ,i64_w,i32_w]
          rfl
         refine last_ (i:=7) (N:=none) #[true,true,true,true,true,true,true,true] rfl rfl (one_of HT_.out (by kernel_rfl)) (by decide) (fun K hK=>?_)
         have hs28 : w24.cell? ⟨gb195,5,none⟩ = some (u196005):=(blk_cell BK195.out 5).trans rfl
         have hfs28:=blk_frozen BK195.out 5
         have hns28_0:=NB194_195.out
         have hns28_2:=NB198_195.out
         have hms28_0:=NB195_194.out
         have hms28_2:=NB195_198.out
         refine skip_ (w1:=?_) (by rfl) rfl ?_ ?_
         rotate_left
         ·go_simp
          rfl
         refine hK.out _ _ ?_
         clear hK K
         refine done_ (done_of HT_.out (by kernel_rfl)) ?_
         try go_wp2
         go_roundg k1
         case measure=>have:=HK1.out;omega
         case rel=>exact ⟨(wrap64 (x17_1 + 1)),(x195000_1),(x195001_1),(x195002_1),(x195003_1),(x195004_1),(y210),(.slice Ao27 y210.length co27),(by first|rfl|(simp;done)|(simp [*];done)),H',⟨by have:=HK1.out;omega⟩,⟨by (with_reducible repeat (first|apply Kd.S_alloc|apply Kd.S_drewN|apply Kd.S_drew));exact Kd.S_mono (Kd.S_far (p:=⟨gb195,5,none⟩) (Kd.S_types HO212.out BK195.out (by decide)) (fun _ hk=>hk.2) (.slice Ao27 y210.length co27)) (fun _ hk=>trivial)⟩,⟨by (with_reducible repeat (first|refine blk_drewN ?_ _|refine blk_drew ?_|refine blk_alloc ?_ _));refine blk_far ?_ NB194_195.out _;(with_reducible repeat (first|refine blk_drewN ?_ _|refine blk_drew ?_|refine blk_alloc ?_ _));exact BK194.out⟩,⟨by (with_reducible repeat (first|refine blk_drewN ?_ _|refine blk_drew ?_|refine blk_alloc ?_ _));refine blk_put (cs:=#[.bool a1,.bool false,.int .i64 255,.int .i64 0,.int .i64 0,u196005]) ?_ 5 _ rfl;(with_reducible repeat (first|refine blk_drewN ?_ _|refine blk_drew ?_|refine blk_alloc ?_ _));exact BK195.out⟩,⟨by repeat (first|(with_reducible first|exact HB.out|apply below_alloc|apply pw_below_drewN|apply below_drew1|refine below_set ?_ GE194.out|refine below_set ?_ GE195.out|refine below_set ?_ GE198.out)|exact HB.out)⟩⟩
        ·rw [if_neg c16] at H
         exact absurd H (by simp)
       ·replace c14:=Bool.eq_false_iff.mpr c14
        subst c14
        have H1 : (some (false,false,0,0,0,([] : List (S57)),false))=some (r1,r2,r3,r4,r5,r6,r7):=by rw [if_neg (show ¬ (false=true) by decide)] at H;exact H
        clear H
        have H:=H1
        clear H1
        simp only [Option.some.injEq,Prod.mk.injEq] at H
        obtain ⟨rfl,rfl,rfl,rfl,rfl,rfl,rfl⟩:=H
        have p197 : 0 ≤ (x17_1 : Int):=of_decide_eq_true (by first|(with_reducible assumption)|assumption)
        have q197 : x17_1 < (l0.length : Int):=of_decide_eq_true (by first|(with_reducible assumption)|assumption)
        obtain ⟨ad197,A197_3,c197_3,A197_4,c197_4,e197,hx197_0,hx197_1,hx197_2,hx197_3,hx197_4,hx197_5,hx197_6,hl197_3,hi197_3,hl197_4,hi197_4⟩:=at_T26 HR0.out x17_1 p197 q197
        cases e197
        replace hx197_0:=(HB.out.cell (World.block_lt_of_cell? w _ hx197_0)).trans hx197_0
        replace hx197_1:=(HB.out.cell (World.block_lt_of_cell? w _ hx197_1)).trans hx197_1
        replace hx197_2:=(HB.out.cell (World.block_lt_of_cell? w _ hx197_2)).trans hx197_2
        replace hx197_3:=(HB.out.cell (World.block_lt_of_cell? w _ hx197_3)).trans hx197_3
        replace hx197_4:=(HB.out.cell (World.block_lt_of_cell? w _ hx197_4)).trans hx197_4
        replace hx197_5:=(HB.out.cell (World.block_lt_of_cell? w _ hx197_5)).trans hx197_5
        replace hx197_6:=(HB.out.cell (World.block_lt_of_cell? w _ hx197_6)).trans hx197_6
        have HR197_3:=Aside0.mk hi197_3
        have HC197_3:=Aside0.mk hl197_3
        clear hi197_3 hl197_3
        have HR197_4:=Aside0.mk hi197_4
        have HC197_4:=Aside0.mk hl197_4
        clear hi197_4 hl197_4
        replace p197:=eq_true p197
        replace q197:=eq_true q197
        go_wp2_with (first|((with_reducible refine gate_dst (N:=8) rfl ?_);refine box_event ?hg (N:=8) ?hd (cs:=#[.int .i64 0,.bool false,.int .i64 0,.slice none 0 0,.slice none 0 0,.bool false,.bool false]) (t:=26) ?hr ?_;(case hd=>rfl);(case hg=>rfl);(case hr=>first|(go_simp;done)|(go_simp;rfl));intro gb198 hg w29 hbox hb;have n0_:=Aside0.mk (Kd.S_below (by (with_reducible repeat (first|apply Kd.S_alloc|apply Kd.S_drewN|apply Kd.S_drew));exact HO_196005.out) hb);have n1_:=Aside0.mk (blk_below (g:=gb194) (o:=.cells #[.bool x195000_1,.bool x195001_1,.int .i64 x195002_1,.int .i64 x195003_1,.int .i64 x195004_1,.slice none 0 0] 39 (0,0)) (by (with_reducible repeat (first|refine blk_drewN ?_ _|refine blk_drew ?_|refine blk_alloc ?_ _));exact BK194.out) hb);have n2_:=Aside0.mk (blk_below (g:=gb195) (o:=.cells #[.bool a1,.bool false,.int .i64 255,.int .i64 0,.int .i64 0,u196005] 39 (0,0)) (by (with_reducible repeat (first|refine blk_drewN ?_ _|refine blk_drew ?_|refine blk_alloc ?_ _));exact BK195.out) hb);have n3_:=Aside0.mk (below_step (by repeat (first|(with_reducible first|exact HB.out|apply below_alloc|apply pw_below_drewN|apply below_drew1|refine below_set ?_ GE194.out|refine below_set ?_ GE195.out)|exact HB.out)) hb);have n4_:=Aside0.mk (hbox);have n5_:=Aside0.mk ((by rw [hg];exact (below_size (by repeat (first|(with_reducible first|exact HB.out|apply below_alloc|apply pw_below_drewN|apply below_drew1|refine below_set ?_ GE194.out|refine below_set ?_ GE195.out)|exact HB.out))) : w.heap.size ≤ gb198));have n6_:=Aside0.mk ((by rw [hg];exact (below_size (by repeat (first|(with_reducible first|exact HB.out|apply below_alloc|apply pw_below_drewN|apply below_drew1|refine below_set ?_ GE194.out|refine below_set ?_ GE195.out)|exact HB.out))) : w.heap.size ≤ gb198));have n7_:=Aside0.mk ((by rw [hg];exact Nat.ne_of_lt (blk_lt (g:=gb194) (o:=.cells #[.bool x195000_1,.bool x195001_1,.int .i64 x195002_1,.int .i64 x195003_1,.int .i64 x195004_1,.slice none 0 0] 39 (0,0)) (by (with_reducible repeat (first|refine blk_drewN ?_ _|refine blk_drew ?_|refine blk_alloc ?_ _));exact BK194.out)) : gb194 ≠ gb198));have n8_:=Aside0.mk ((by rw [hg];exact Nat.ne_of_gt (blk_lt (g:=gb194) (o:=.cells #[.bool x195000_1,.bool x195001_1,.int .i64 x195002_1,.int .i64 x195003_1,.int .i64 x195004_1,.slice none 0 0] 39 (0,0)) (by (with_reducible repeat (first|refine blk_drewN ?_ _|refine blk_drew ?_|refine blk_alloc ?_ _));exact BK194.out)) : gb198 ≠ gb194));have n9_:=Aside0.mk ((by rw [hg];exact Nat.ne_of_lt (blk_lt (g:=gb195) (o:=.cells #[.bool a1,.bool false,.int .i64 255,.int .i64 0,.int .i64 0,u196005] 39 (0,0)) (by (with_reducible repeat (first|refine blk_drewN ?_ _|refine blk_drew ?_|refine blk_alloc ?_ _));exact BK195.out)) : gb195 ≠ gb198));have n10_:=Aside0.mk ((by rw [hg];exact Nat.ne_of_gt (blk_lt (g:=gb195) (o:=.cells #[.bool a1,.bool false,.int .i64 255,.int .i64 0,.int .i64 0,u196005] 39 (0,0)) (by (with_reducible repeat (first|refine blk_drewN ?_ _|refine blk_drew ?_|refine blk_alloc ?_ _));exact BK195.out)) : gb198 ≠ gb195));clear HO_196005;clear BK194;clear BK195;clear HB;have HO_196005:=n0_;have BK194:=n1_;have BK195:=n2_;have HB:=n3_;have BK198:=n4_;have GW198:=n5_;have GE198:=n6_;have NB194_198:=n7_;have NB198_194:=n8_;have NB195_198:=n9_;have NB198_195:=n10_;clear n0_ n1_ n2_ n3_ n4_ n5_ n6_ n7_ n8_ n9_ n10_;clear hb hbox hg;have hnb30:=NB198_194.out;have hnc30:=NB194_198.out;have hnb31:=NB198_195.out;have hnc31:=NB195_198.out;have hcz32_0 : w29.cell? ⟨gb198,0,none⟩ = some (.int .i64 0):=(blk_cell BK198.out 0).trans rfl;have hcz32_1 : w29.cell? ⟨gb198,1,none⟩ = some (.bool false):=(blk_cell BK198.out 1).trans rfl;have hcz32_2 : w29.cell? ⟨gb198,2,none⟩ = some (.int .i64 0):=(blk_cell BK198.out 2).trans rfl;have hcz32_3 : w29.cell? ⟨gb198,3,none⟩ = some (.slice none 0 0):=(blk_cell BK198.out 3).trans rfl;have hcz32_4 : w29.cell? ⟨gb198,4,none⟩ = some (.slice none 0 0):=(blk_cell BK198.out 4).trans rfl;have hcz32_5 : w29.cell? ⟨gb198,5,none⟩ = some (.bool false):=(blk_cell BK198.out 5).trans rfl;have hcz32_6 : w29.cell? ⟨gb198,6,none⟩ = some (.bool false):=(blk_cell BK198.out 6).trans rfl;have hfz32_0:=blk_frozen BK198.out 0;have hfz32_1:=blk_frozen BK198.out 1;have hfz32_2:=blk_frozen BK198.out 2;have hfz32_3:=blk_frozen BK198.out 3;have hfz32_4:=blk_frozen BK198.out 4;have hfz32_5:=blk_frozen BK198.out 5;have hfz32_6:=blk_frozen BK198.out 6)|((with_reducible refine gate_callee (f:=20) rfl ?_);refine goesL_ (some 22) rfl rfl Try.func20 (by kernel_rfl) rfl #[.agg #[.int .i64 ((rd_T26 l0 x17_1).f0),.bool ((rd_T26 l0 x17_1).f1),.int .i64 ((rd_T26 l0 x17_1).f2),.slice A197_3 ((rd_T26 l0 x17_1).f3).length c197_3,.slice A197_4 ((rd_T26 l0 x17_1).f4).length c197_4,.bool ((rd_T26 l0 x17_1).f5),.bool ((rd_T26 l0 x17_1).f6)]] rfl (by (try simp only [List.map_toArray,List.map_cons,List.map_nil]);first|done|rfl|(simp only [List.length_drop,List.length_take];rfl)) ?_;(with_reducible refine (impl_OldValid.calls k1 ((rd_T26 l0 x17_1).f0) ((rd_T26 l0 x17_1).f1) ((rd_T26 l0 x17_1).f2) _ _ ((rd_T26 l0 x17_1).f3) _ _ ((rd_T26 l0 x17_1).f4) ((rd_T26 l0 x17_1).f5) ((rd_T26 l0 x17_1).f6) false _ ?side1 ?side2 ?side3 ?side4 A13.out).mono ?_);(case side1=>exact Kd.C_below HR197_3.out (by repeat (first|(with_reducible first|exact HB.out|apply below_alloc|apply pw_below_drewN|apply below_drew1|refine below_set ?_ GE194.out|refine below_set ?_ GE195.out|refine below_set ?_ GE198.out)|exact HB.out)));(case side2=>exact HC197_3.out);(case side3=>exact Kd.C_below HR197_4.out (by repeat (first|(with_reducible first|exact HB.out|apply below_alloc|apply pw_below_drewN|apply below_drew1|refine below_set ?_ GE194.out|refine below_set ?_ GE195.out|refine below_set ?_ GE198.out)|exact HB.out)));(case side4=>exact HC197_4.out);rintro e w33 ⟨rfl,hb⟩;refine ⟨_,rfl,?_⟩;have n0_:=Aside0.mk (Kd.S_below (by (with_reducible repeat (first|apply Kd.S_alloc|apply Kd.S_drewN|apply Kd.S_drew));exact (Kd.S_mono (Kd.S_far (p:=⟨gb198,6,none⟩) (Kd.S_far (p:=⟨gb198,5,none⟩) (Kd.S_far (p:=⟨gb198,4,none⟩) (Kd.S_far (p:=⟨gb198,3,none⟩) (Kd.S_far (p:=⟨gb198,2,none⟩) (Kd.S_far (p:=⟨gb198,1,none⟩) (Kd.S_far (p:=⟨gb198,0,none⟩) (Kd.S_types HO_196005.out BK198.out (by decide)) (fun _ hk=>hk.2) (.int .i64 ((rd_T26 l0 x17_1).f0))) (fun _ hk=>hk.2) (.bool ((rd_T26 l0 x17_1).f1))) (fun _ hk=>hk.2) (.int .i64 ((rd_T26 l0 x17_1).f2))) (fun _ hk=>hk.2) (.slice A197_3 ((rd_T26 l0 x17_1).f3).length c197_3)) (fun _ hk=>hk.2) (.slice A197_4 ((rd_T26 l0 x17_1).f4).length c197_4)) (fun _ hk=>hk.2) (.bool ((rd_T26 l0 x17_1).f5))) (fun _ hk=>hk.2) (.bool ((rd_T26 l0 x17_1).f6))) (fun _ h_=>h_.1))) hb);have n1_:=Aside0.mk (blk_below (g:=gb194) (o:=.cells #[.bool x195000_1,.bool x195001_1,.int .i64 x195002_1,.int .i64 x195003_1,.int .i64 x195004_1,.slice none 0 0] 39 (0,0)) (by (with_reducible repeat (first|refine blk_drewN ?_ _|refine blk_drew ?_|refine blk_alloc ?_ _));refine blk_far ?_ NB194_198.out _;(with_reducible repeat (first|refine blk_drewN ?_ _|refine blk_drew ?_|refine blk_alloc ?_ _));refine blk_far ?_ NB194_198.out _;(with_reducible repeat (first|refine blk_drewN ?_ _|refine blk_drew ?_|refine blk_alloc ?_ _));refine blk_far ?_ NB194_198.out _;(with_reducible repeat (first|refine blk_drewN ?_ _|refine blk_drew ?_|refine blk_alloc ?_ _));refine blk_far ?_ NB194_198.out _;(with_reducible repeat (first|refine blk_drewN ?_ _|refine blk_drew ?_|refine blk_alloc ?_ _));refine blk_far ?_ NB194_198.out _;(with_reducible repeat (first|refine blk_drewN ?_ _|refine blk_drew ?_|refine blk_alloc ?_ _));refine blk_far ?_ NB194_198.out _;(with_reducible repeat (first|refine blk_drewN ?_ _|refine blk_drew ?_|refine blk_alloc ?_ _));refine blk_far ?_ NB194_198.out _;(with_reducible repeat (first|refine blk_drewN ?_ _|refine blk_drew ?_|refine blk_alloc ?_ _));exact BK194.out) hb);have n2_:=Aside0.mk (blk_below (g:=gb195) (o:=.cells #[.bool a1,.bool false,.int .i64 255,.int .i64 0,.int .i64 0,u196005] 39 (0,0)) (by (with_reducible repeat (first|refine blk_drewN ?_ _|refine blk_drew ?_|refine blk_alloc ?_ _));refine blk_far ?_ NB195_198.out _;(with_reducible repeat (first|refine blk_drewN ?_ _|refine blk_drew ?_|refine blk_alloc ?_ _));refine blk_far ?_ NB195_198.out _;(with_reducible repeat (first|refine blk_drewN ?_ _|refine blk_drew ?_|refine blk_alloc ?_ _));refine blk_far ?_ NB195_198.out _;(with_reducible repeat (first|refine blk_drewN ?_ _|refine blk_drew ?_|refine blk_alloc ?_ _));refine blk_far ?_ NB195_198.out _;(with_reducible repeat (first|refine blk_drewN ?_ _|refine blk_drew ?_|refine blk_alloc ?_ _));refine blk_far ?_ NB195_198.out _;(with_reducible repeat (first|refine blk_drewN ?_ _|refine blk_drew ?_|refine blk_alloc ?_ _));refine blk_far ?_ NB195_198.out _;(with_reducible repeat (first|refine blk_drewN ?_ _|refine blk_drew ?_|refine blk_alloc ?_ _));refine blk_far ?_ NB195_198.out _;(with_reducible repeat (first|refine blk_drewN ?_ _|refine blk_drew ?_|refine blk_alloc ?_ _));exact BK195.out) hb);have n3_:=Aside0.mk (blk_below (g:=gb198) (o:=.cells #[.int .i64 ((rd_T26 l0 x17_1).f0),.bool ((rd_T26 l0 x17_1).f1),.int .i64 ((rd_T26 l0 x17_1).f2),.slice A197_3 ((rd_T26 l0 x17_1).f3).length c197_3,.slice A197_4 ((rd_T26 l0 x17_1).f4).length c197_4,.bool ((rd_T26 l0 x17_1).f5),.bool ((rd_T26 l0 x17_1).f6)] 26 (0,0)) (by (with_reducible repeat (first|refine blk_drewN ?_ _|refine blk_drew ?_|refine blk_alloc ?_ _));refine blk_put (cs:=#[.int .i64 ((rd_T26 l0 x17_1).f0),.bool ((rd_T26 l0 x17_1).f1),.int .i64 ((rd_T26 l0 x17_1).f2),.slice A197_3 ((rd_T26 l0 x17_1).f3).length c197_3,.slice A197_4 ((rd_T26 l0 x17_1).f4).length c197_4,.bool ((rd_T26 l0 x17_1).f5),.bool false]) ?_ 6 _ rfl;(with_reducible repeat (first|refine blk_drewN ?_ _|refine blk_drew ?_|refine blk_alloc ?_ _));refine blk_put (cs:=#[.int .i64 ((rd_T26 l0 x17_1).f0),.bool ((rd_T26 l0 x17_1).f1),.int .i64 ((rd_T26 l0 x17_1).f2),.slice A197_3 ((rd_T26 l0 x17_1).f3).length c197_3,.slice A197_4 ((rd_T26 l0 x17_1).f4).length c197_4,.bool false,.bool false]) ?_ 5 _ rfl;(with_reducible repeat (first|refine blk_drewN ?_ _|refine blk_drew ?_|refine blk_alloc ?_ _));refine blk_put (cs:=#[.int .i64 ((rd_T26 l0 x17_1).f0),.bool ((rd_T26 l0 x17_1).f1),.int .i64 ((rd_T26 l0 x17_1).f2),.slice A197_3 ((rd_T26 l0 x17_1).f3).length c197_3,.slice none 0 0,.bool false,.bool false]) ?_ 4 _ rfl;(with_reducible repeat (first|refine blk_drewN ?_ _|refine blk_drew ?_|refine blk_alloc ?_ _));refine blk_put (cs:=#[.int .i64 ((rd_T26 l0 x17_1).f0),.bool ((rd_T26 l0 x17_1).f1),.int .i64 ((rd_T26 l0 x17_1).f2),.slice none 0 0,.slice none 0 0,.bool false,.bool false]) ?_ 3 _ rfl;(with_reducible repeat (first|refine blk_drewN ?_ _|refine blk_drew ?_|refine blk_alloc ?_ _));refine blk_put (cs:=#[.int .i64 ((rd_T26 l0 x17_1).f0),.bool ((rd_T26 l0 x17_1).f1),.int .i64 0,.slice none 0 0,.slice none 0 0,.bool false,.bool false]) ?_ 2 _ rfl;(with_reducible repeat (first|refine blk_drewN ?_ _|refine blk_drew ?_|refine blk_alloc ?_ _));refine blk_put (cs:=#[.int .i64 ((rd_T26 l0 x17_1).f0),.bool false,.int .i64 0,.slice none 0 0,.slice none 0 0,.bool false,.bool false]) ?_ 1 _ rfl;(with_reducible repeat (first|refine blk_drewN ?_ _|refine blk_drew ?_|refine blk_alloc ?_ _));refine blk_put (cs:=#[.int .i64 0,.bool false,.int .i64 0,.slice none 0 0,.slice none 0 0,.bool false,.bool false]) ?_ 0 _ rfl;(with_reducible repeat (first|refine blk_drewN ?_ _|refine blk_drew ?_|refine blk_alloc ?_ _));exact BK198.out) hb);have n4_:=Aside0.mk (below_step (by repeat (first|(with_reducible first|exact HB.out|apply below_alloc|apply pw_below_drewN|apply below_drew1|refine below_set ?_ GE194.out|refine below_set ?_ GE195.out|refine below_set ?_ GE198.out)|exact HB.out)) hb);clear HO_196005;clear BK194;clear BK195;clear BK198;clear HB;have HO_196005:=n0_;have BK194:=n1_;have BK195:=n2_;have BK198:=n3_;have HB:=n4_;clear n0_ n1_ n2_ n3_ n4_;(try clear hb);(try clear hb2);(try clear hk);(try clear hi);have hnb34:=NB194_195.out;have hnc34:=NB195_194.out;have hcz35_0 : w33.cell? ⟨gb194,0,none⟩ = some (.bool x195000_1):=(blk_cell BK194.out 0).trans rfl;have hcz35_1 : w33.cell? ⟨gb194,1,none⟩ = some (.bool x195001_1):=(blk_cell BK194.out 1).trans rfl;have hcz35_2 : w33.cell? ⟨gb194,2,none⟩ = some (.int .i64 x195002_1):=(blk_cell BK194.out 2).trans rfl;have hcz35_3 : w33.cell? ⟨gb194,3,none⟩ = some (.int .i64 x195003_1):=(blk_cell BK194.out 3).trans rfl;have hcz35_4 : w33.cell? ⟨gb194,4,none⟩ = some (.int .i64 x195004_1):=(blk_cell BK194.out 4).trans rfl;have hcz35_5 : w33.cell? ⟨gb194,5,none⟩ = some (.slice none 0 0):=(blk_cell BK194.out 5).trans rfl;have hfz35_0:=blk_frozen BK194.out 0;have hfz35_1:=blk_frozen BK194.out 1;have hfz35_2:=blk_frozen BK194.out 2;have hfz35_3:=blk_frozen BK194.out 3;have hfz35_4:=blk_frozen BK194.out 4;have hfz35_5:=blk_frozen BK194.out 5))
        refine bodyPost_ret (results_ct rfl _ _ gb194 39 #[.bool false,.bool false,.int .i64 0,.int .i64 0,.int .i64 0,.slice none 0 0] (0,0) _ rfl (by (with_reducible repeat (first|refine blk_drewN ?_ _|refine blk_drew ?_|refine blk_alloc ?_ _));refine blk_put (cs:=#[.bool false,.bool false,.int .i64 0,.int .i64 0,.int .i64 0,.slice none 0 0]) ?_ 5 _ rfl;(with_reducible repeat (first|refine blk_drewN ?_ _|refine blk_drew ?_|refine blk_alloc ?_ _));refine blk_put (cs:=#[.bool false,.bool false,.int .i64 0,.int .i64 0,.int .i64 x195004_1,.slice none 0 0]) ?_ 4 _ rfl;(with_reducible repeat (first|refine blk_drewN ?_ _|refine blk_drew ?_|refine blk_alloc ?_ _));refine blk_put (cs:=#[.bool false,.bool false,.int .i64 0,.int .i64 x195003_1,.int .i64 x195004_1,.slice none 0 0]) ?_ 3 _ rfl;(with_reducible repeat (first|refine blk_drewN ?_ _|refine blk_drew ?_|refine blk_alloc ?_ _));refine blk_put (cs:=#[.bool false,.bool false,.int .i64 x195002_1,.int .i64 x195003_1,.int .i64 x195004_1,.slice none 0 0]) ?_ 2 _ rfl;(with_reducible repeat (first|refine blk_drewN ?_ _|refine blk_drew ?_|refine blk_alloc ?_ _));refine blk_put (cs:=#[.bool false,.bool x195001_1,.int .i64 x195002_1,.int .i64 x195003_1,.int .i64 x195004_1,.slice none 0 0]) ?_ 1 _ rfl;(with_reducible repeat (first|refine blk_drewN ?_ _|refine blk_drew ?_|refine blk_alloc ?_ _));refine blk_put (cs:=#[.bool x195000_1,.bool x195001_1,.int .i64 x195002_1,.int .i64 x195003_1,.int .i64 x195004_1,.slice none 0 0]) ?_ 0 _ rfl;(with_reducible repeat (first|refine blk_drewN ?_ _|refine blk_drew ?_|refine blk_alloc ?_ _));exact BK194.out) Try.underlying39 rfl (by kernel_rfl)) rfl ?_
        exact ⟨_,by first|rfl|(simp [errW_none,errW_some] <;> rfl)|(simp [*,errW_none,errW_some] <;> rfl),by first|exact Kd.S_nil _ _ _ _ _|exact Kd.N_nil _ _ _ _ _|exact Kd.V_nil _ _ _ _ _|exact Kd.Q_nil _ _ _ _ _|exact Kd.R_nil _ _ _ _ _,by repeat (first|(with_reducible first|exact HB.out|apply below_alloc|apply pw_below_drewN|apply below_drew1|refine below_set ?_ GE194.out|refine below_set ?_ GE195.out|refine below_set ?_ GE198.out)|exact HB.out)⟩
      ·rw [if_neg c12] at H
       exact absurd H (by simp)
     ·rw [if_neg c11] at H
      exact absurd H (by simp)
    ·rw [if_neg c10] at H
     have c10b0 : decide (x17_1 < (l0.length : Int))=false:=decide_eq_false c10
     clear c10
     replace H:=Option.bind_eq_some_iff.mp H
     obtain ⟨t196,A360,H⟩:=H
     replace H : (if t196=true then (some (a1,false,255,0,0,x196005_1,true)) else (some (false,false,0,0,0,([] : List (S57)),false)))=some (r1,r2,r3,r4,r5,r6,r7):=H
     have A36:=Aside0.mk A360
     clear A360
     by_cases c37 : t196=true
     ·subst c37
      have H1 : (some (a1,false,255,0,0,x196005_1,true))=some (r1,r2,r3,r4,r5,r6,r7):=by rw [if_pos rfl] at H;exact H
      clear H
      have H:=H1
      clear H1
      simp only [Option.some.injEq,Prod.mk.injEq] at H
      obtain ⟨rfl,rfl,rfl,rfl,rfl,rfl,rfl⟩:=H
      have hnb38:=NB195_194.out
      have hnc38:=NB194_195.out
      have hcz39_0 : wr.cell? ⟨gb195,0,none⟩ = some (.bool a1):=(blk_cell BK195.out 0).trans rfl
      have hcz39_1 : wr.cell? ⟨gb195,1,none⟩ = some (.bool false):=(blk_cell BK195.out 1).trans rfl
      have hcz39_2 : wr.cell? ⟨gb195,2,none⟩ = some (.int .i64 255):=(blk_cell BK195.out 2).trans rfl
      have hcz39_3 : wr.cell? ⟨gb195,3,none⟩ = some (.int .i64 0):=(blk_cell BK195.out 3).trans rfl
      have hcz39_4 : wr.cell? ⟨gb195,4,none⟩ = some (.int .i64 0):=(blk_cell BK195.out 4).trans rfl
      have hcz39_5 : wr.cell? ⟨gb195,5,none⟩ = some (u196005):=(blk_cell BK195.out 5).trans rfl
      have hfz39_0:=blk_frozen BK195.out 0
      have hfz39_1:=blk_frozen BK195.out 1
      have hfz39_2:=blk_frozen BK195.out 2
      have hfz39_3:=blk_frozen BK195.out 3
      have hfz39_4:=blk_frozen BK195.out 4
      have hfz39_5:=blk_frozen BK195.out 5
      obtain ⟨Ao40,co40,eo40⟩:=Kd.S_slice HO_196005.out
      subst eo40
      go_wp2_with (first|((with_reducible refine gate_callee (f:=38) rfl ?_);refine goesL_ (some 34) rfl rfl Try.func38 (by kernel_rfl) rfl #[.agg #[.bool a1,.bool false,.int .i64 255,.int .i64 0,.int .i64 0,.slice Ao40 x196005_1.length co40]] rfl (by (try simp only [List.map_toArray,List.map_cons,List.map_nil]);first|done|rfl|(simp only [List.length_drop,List.length_take];rfl)) ?_;(with_reducible refine (impl_BatchValid.calls k1 a1 false 255 0 0 _ _ x196005_1 true _ ?side1 ?side2 A36.out).mono ?_);(case side1=>repeat (first|exact (Kd.S_reads' HO_196005.out).2.2|(with_reducible refine Kd.C_alloc ?_ _)|(with_reducible refine Kd.C_drewN ?_ _)|(with_reducible refine Kd.C_drew ?_)));(case side2=>exact (Kd.S_reads' HO_196005.out).2.1);rintro e w41 ⟨rfl,hb⟩;refine ⟨_,rfl,?_⟩;have n0_:=Aside0.mk (Kd.S_below (by (with_reducible repeat (first|apply Kd.S_alloc|apply Kd.S_drewN|apply Kd.S_drew));exact HO_196005.out) hb);have n1_:=Aside0.mk (blk_below (g:=gb194) (o:=.cells #[.bool x195000_1,.bool x195001_1,.int .i64 x195002_1,.int .i64 x195003_1,.int .i64 x195004_1,.slice none 0 0] 39 (0,0)) (by (with_reducible repeat (first|refine blk_drewN ?_ _|refine blk_drew ?_|refine blk_alloc ?_ _));exact BK194.out) hb);have n2_:=Aside0.mk (blk_below (g:=gb195) (o:=.cells #[.bool a1,.bool false,.int .i64 255,.int .i64 0,.int .i64 0,.slice Ao40 x196005_1.length co40] 39 (0,0)) (by (with_reducible repeat (first|refine blk_drewN ?_ _|refine blk_drew ?_|refine blk_alloc ?_ _));exact BK195.out) hb);have n3_:=Aside0.mk (below_step (by repeat (first|(with_reducible first|exact HB.out|apply below_alloc|apply pw_below_drewN|apply below_drew1|refine below_set ?_ GE194.out|refine below_set ?_ GE195.out)|exact HB.out)) hb);clear HO_196005;clear BK194;clear BK195;clear HB;have HO_196005:=n0_;have BK194:=n1_;have BK195:=n2_;have HB:=n3_;clear n0_ n1_ n2_ n3_;(try clear hb);(try clear hb2);(try clear hk);(try clear hi);have hcz42_0 : w41.cell? ⟨gb195,0,none⟩ = some (.bool a1):=(blk_cell BK195.out 0).trans rfl;have hcz42_1 : w41.cell? ⟨gb195,1,none⟩ = some (.bool false):=(blk_cell BK195.out 1).trans rfl;have hcz42_2 : w41.cell? ⟨gb195,2,none⟩ = some (.int .i64 255):=(blk_cell BK195.out 2).trans rfl;have hcz42_3 : w41.cell? ⟨gb195,3,none⟩ = some (.int .i64 0):=(blk_cell BK195.out 3).trans rfl;have hcz42_4 : w41.cell? ⟨gb195,4,none⟩ = some (.int .i64 0):=(blk_cell BK195.out 4).trans rfl;have hcz42_5 : w41.cell? ⟨gb195,5,none⟩ = some (.slice Ao40 x196005_1.length co40):=(blk_cell BK195.out 5).trans rfl;have hfz42_0:=blk_frozen BK195.out 0;have hfz42_1:=blk_frozen BK195.out 1;have hfz42_2:=blk_frozen BK195.out 2;have hfz42_3:=blk_frozen BK195.out 3;have hfz42_4:=blk_frozen BK195.out 4;have hfz42_5:=blk_frozen BK195.out 5;have hcz43_0 : w41.cell? ⟨gb194,0,none⟩ = some (.bool x195000_1):=(blk_cell BK194.out 0).trans rfl;have hcz43_1 : w41.cell? ⟨gb194,1,none⟩ = some (.bool x195001_1):=(blk_cell BK194.out 1).trans rfl;have hcz43_2 : w41.cell? ⟨gb194,2,none⟩ = some (.int .i64 x195002_1):=(blk_cell BK194.out 2).trans rfl;have hcz43_3 : w41.cell? ⟨gb194,3,none⟩ = some (.int .i64 x195003_1):=(blk_cell BK194.out 3).trans rfl;have hcz43_4 : w41.cell? ⟨gb194,4,none⟩ = some (.int .i64 x195004_1):=(blk_cell BK194.out 4).trans rfl;have hcz43_5 : w41.cell? ⟨gb194,5,none⟩ = some (.slice none 0 0):=(blk_cell BK194.out 5).trans rfl;have hfz43_0:=blk_frozen BK194.out 0;have hfz43_1:=blk_frozen BK194.out 1;have hfz43_2:=blk_frozen BK194.out 2;have hfz43_3:=blk_frozen BK194.out 3;have hfz43_4:=blk_frozen BK194.out 4;have hfz43_5:=blk_frozen BK194.out 5))
      refine bodyPost_ret (results_ct rfl _ _ gb194 39 #[.bool a1,.bool false,.int .i64 255,.int .i64 0,.int .i64 0,.slice Ao40 x196005_1.length co40] (0,0) _ rfl (by (with_reducible repeat (first|refine blk_drewN ?_ _|refine blk_drew ?_|refine blk_alloc ?_ _));refine blk_put (cs:=#[.bool a1,.bool false,.int .i64 255,.int .i64 0,.int .i64 0,.slice none 0 0]) ?_ 5 _ rfl;(with_reducible repeat (first|refine blk_drewN ?_ _|refine blk_drew ?_|refine blk_alloc ?_ _));refine blk_put (cs:=#[.bool a1,.bool false,.int .i64 255,.int .i64 0,.int .i64 x195004_1,.slice none 0 0]) ?_ 4 _ rfl;(with_reducible repeat (first|refine blk_drewN ?_ _|refine blk_drew ?_|refine blk_alloc ?_ _));refine blk_put (cs:=#[.bool a1,.bool false,.int .i64 255,.int .i64 x195003_1,.int .i64 x195004_1,.slice none 0 0]) ?_ 3 _ rfl;(with_reducible repeat (first|refine blk_drewN ?_ _|refine blk_drew ?_|refine blk_alloc ?_ _));refine blk_put (cs:=#[.bool a1,.bool false,.int .i64 x195002_1,.int .i64 x195003_1,.int .i64 x195004_1,.slice none 0 0]) ?_ 2 _ rfl;(with_reducible repeat (first|refine blk_drewN ?_ _|refine blk_drew ?_|refine blk_alloc ?_ _));refine blk_put (cs:=#[.bool a1,.bool x195001_1,.int .i64 x195002_1,.int .i64 x195003_1,.int .i64 x195004_1,.slice none 0 0]) ?_ 1 _ rfl;(with_reducible repeat (first|refine blk_drewN ?_ _|refine blk_drew ?_|refine blk_alloc ?_ _));refine blk_put (cs:=#[.bool x195000_1,.bool x195001_1,.int .i64 x195002_1,.int .i64 x195003_1,.int .i64 x195004_1,.slice none 0 0]) ?_ 0 _ rfl;(with_reducible repeat (first|refine blk_drewN ?_ _|refine blk_drew ?_|refine blk_alloc ?_ _));exact BK194.out) Try.underlying39 rfl (by kernel_rfl)) rfl ?_
      exact ⟨_,by first|rfl|(simp [errW_none,errW_some] <;> rfl)|(simp [*,errW_none,errW_some] <;> rfl),by (with_reducible repeat (first|apply Kd.S_alloc|apply Kd.S_drewN|apply Kd.S_drew));exact Kd.S_mono (Kd.S_far (p:=⟨gb194,5,none⟩) (Kd.S_far (p:=⟨gb194,4,none⟩) (Kd.S_far (p:=⟨gb194,3,none⟩) (Kd.S_far (p:=⟨gb194,2,none⟩) (Kd.S_far (p:=⟨gb194,1,none⟩) (Kd.S_far (p:=⟨gb194,0,none⟩) (Kd.S_types HO_196005.out BK194.out (by decide)) (fun _ hk=>hk.2) (.bool a1)) (fun _ hk=>hk.2) (.bool false)) (fun _ hk=>hk.2) (.int .i64 255)) (fun _ hk=>hk.2) (.int .i64 0)) (fun _ hk=>hk.2) (.int .i64 0)) (fun _ hk=>hk.2) (.slice Ao40 x196005_1.length co40)) (fun _ hk=>trivial),by repeat (first|(with_reducible first|exact HB.out|apply below_alloc|apply pw_below_drewN|apply below_drew1|refine below_set ?_ GE194.out|refine below_set ?_ GE195.out)|exact HB.out)⟩
     ·replace c37:=Bool.eq_false_iff.mpr c37
      subst c37
      have H1 : (some (false,false,0,0,0,([] : List (S57)),false))=some (r1,r2,r3,r4,r5,r6,r7):=by rw [if_neg (show ¬ (false=true) by decide)] at H;exact H
      clear H
      have H:=H1
      clear H1
      simp only [Option.some.injEq,Prod.mk.injEq] at H
      obtain ⟨rfl,rfl,rfl,rfl,rfl,rfl,rfl⟩:=H
      have hnb44:=NB195_194.out
      have hnc44:=NB194_195.out
      have hcz45_0 : wr.cell? ⟨gb195,0,none⟩ = some (.bool a1):=(blk_cell BK195.out 0).trans rfl
      have hcz45_1 : wr.cell? ⟨gb195,1,none⟩ = some (.bool false):=(blk_cell BK195.out 1).trans rfl
      have hcz45_2 : wr.cell? ⟨gb195,2,none⟩ = some (.int .i64 255):=(blk_cell BK195.out 2).trans rfl
      have hcz45_3 : wr.cell? ⟨gb195,3,none⟩ = some (.int .i64 0):=(blk_cell BK195.out 3).trans rfl
      have hcz45_4 : wr.cell? ⟨gb195,4,none⟩ = some (.int .i64 0):=(blk_cell BK195.out 4).trans rfl
      have hcz45_5 : wr.cell? ⟨gb195,5,none⟩ = some (u196005):=(blk_cell BK195.out 5).trans rfl
      have hfz45_0:=blk_frozen BK195.out 0
      have hfz45_1:=blk_frozen BK195.out 1
      have hfz45_2:=blk_frozen BK195.out 2
      have hfz45_3:=blk_frozen BK195.out 3
      have hfz45_4:=blk_frozen BK195.out 4
      have hfz45_5:=blk_frozen BK195.out 5
      obtain ⟨Ao46,co46,eo46⟩:=Kd.S_slice HO_196005.out
      subst eo46
      go_wp2_with (first|((with_reducible refine gate_callee (f:=38) rfl ?_);refine goesL_ (some 34) rfl rfl Try.func38 (by kernel_rfl) rfl #[.agg #[.bool a1,.bool false,.int .i64 255,.int .i64 0,.int .i64 0,.slice Ao46 x196005_1.length co46]] rfl (by (try simp only [List.map_toArray,List.map_cons,List.map_nil]);first|done|rfl|(simp only [List.length_drop,List.length_take];rfl)) ?_;(with_reducible refine (impl_BatchValid.calls k1 a1 false 255 0 0 _ _ x196005_1 false _ ?side1 ?side2 A36.out).mono ?_);(case side1=>repeat (first|exact (Kd.S_reads' HO_196005.out).2.2|(with_reducible refine Kd.C_alloc ?_ _)|(with_reducible refine Kd.C_drewN ?_ _)|(with_reducible refine Kd.C_drew ?_)));(case side2=>exact (Kd.S_reads' HO_196005.out).2.1);rintro e w47 ⟨rfl,hb⟩;refine ⟨_,rfl,?_⟩;have n0_:=Aside0.mk (Kd.S_below (by (with_reducible repeat (first|apply Kd.S_alloc|apply Kd.S_drewN|apply Kd.S_drew));exact HO_196005.out) hb);have n1_:=Aside0.mk (blk_below (g:=gb194) (o:=.cells #[.bool x195000_1,.bool x195001_1,.int .i64 x195002_1,.int .i64 x195003_1,.int .i64 x195004_1,.slice none 0 0] 39 (0,0)) (by (with_reducible repeat (first|refine blk_drewN ?_ _|refine blk_drew ?_|refine blk_alloc ?_ _));exact BK194.out) hb);have n2_:=Aside0.mk (blk_below (g:=gb195) (o:=.cells #[.bool a1,.bool false,.int .i64 255,.int .i64 0,.int .i64 0,.slice Ao46 x196005_1.length co46] 39 (0,0)) (by (with_reducible repeat (first|refine blk_drewN ?_ _|refine blk_drew ?_|refine blk_alloc ?_ _));exact BK195.out) hb);have n3_:=Aside0.mk (below_step (by repeat (first|(with_reducible first|exact HB.out|apply below_alloc|apply pw_below_drewN|apply below_drew1|refine below_set ?_ GE194.out|refine below_set ?_ GE195.out)|exact HB.out)) hb);clear HO_196005;clear BK194;clear BK195;clear HB;have HO_196005:=n0_;have BK194:=n1_;have BK195:=n2_;have HB:=n3_;clear n0_ n1_ n2_ n3_;(try clear hb);(try clear hb2);(try clear hk);(try clear hi);have hcz48_0 : w47.cell? ⟨gb194,0,none⟩ = some (.bool x195000_1):=(blk_cell BK194.out 0).trans rfl;have hcz48_1 : w47.cell? ⟨gb194,1,none⟩ = some (.bool x195001_1):=(blk_cell BK194.out 1).trans rfl;have hcz48_2 : w47.cell? ⟨gb194,2,none⟩ = some (.int .i64 x195002_1):=(blk_cell BK194.out 2).trans rfl;have hcz48_3 : w47.cell? ⟨gb194,3,none⟩ = some (.int .i64 x195003_1):=(blk_cell BK194.out 3).trans rfl;have hcz48_4 : w47.cell? ⟨gb194,4,none⟩ = some (.int .i64 x195004_1):=(blk_cell BK194.out 4).trans rfl;have hcz48_5 : w47.cell? ⟨gb194,5,none⟩ = some (.slice none 0 0):=(blk_cell BK194.out 5).trans rfl;have hfz48_0:=blk_frozen BK194.out 0;have hfz48_1:=blk_frozen BK194.out 1;have hfz48_2:=blk_frozen BK194.out 2;have hfz48_3:=blk_frozen BK194.out 3;have hfz48_4:=blk_frozen BK194.out 4;have hfz48_5:=blk_frozen BK194.out 5))
      refine bodyPost_ret (results_ct rfl _ _ gb194 39 #[.bool false,.bool false,.int .i64 0,.int .i64 0,.int .i64 0,.slice none 0 0] (0,0) _ rfl (by (with_reducible repeat (first|refine blk_drewN ?_ _|refine blk_drew ?_|refine blk_alloc ?_ _));refine blk_put (cs:=#[.bool false,.bool false,.int .i64 0,.int .i64 0,.int .i64 0,.slice none 0 0]) ?_ 5 _ rfl;(with_reducible repeat (first|refine blk_drewN ?_ _|refine blk_drew ?_|refine blk_alloc ?_ _));refine blk_put (cs:=#[.bool false,.bool false,.int .i64 0,.int .i64 0,.int .i64 x195004_1,.slice none 0 0]) ?_ 4 _ rfl;(with_reducible repeat (first|refine blk_drewN ?_ _|refine blk_drew ?_|refine blk_alloc ?_ _));refine blk_put (cs:=#[.bool false,.bool false,.int .i64 0,.int .i64 x195003_1,.int .i64 x195004_1,.slice none 0 0]) ?_ 3 _ rfl;(with_reducible repeat (first|refine blk_drewN ?_ _|refine blk_drew ?_|refine blk_alloc ?_ _));refine blk_put (cs:=#[.bool false,.bool false,.int .i64 x195002_1,.int .i64 x195003_1,.int .i64 x195004_1,.slice none 0 0]) ?_ 2 _ rfl;(with_reducible repeat (first|refine blk_drewN ?_ _|refine blk_drew ?_|refine blk_alloc ?_ _));refine blk_put (cs:=#[.bool false,.bool x195001_1,.int .i64 x195002_1,.int .i64 x195003_1,.int .i64 x195004_1,.slice none 0 0]) ?_ 1 _ rfl;(with_reducible repeat (first|refine blk_drewN ?_ _|refine blk_drew ?_|refine blk_alloc ?_ _));refine blk_put (cs:=#[.bool x195000_1,.bool x195001_1,.int .i64 x195002_1,.int .i64 x195003_1,.int .i64 x195004_1,.slice none 0 0]) ?_ 0 _ rfl;(with_reducible repeat (first|refine blk_drewN ?_ _|refine blk_drew ?_|refine blk_alloc ?_ _));exact BK194.out) Try.underlying39 rfl (by kernel_rfl)) rfl ?_
      exact ⟨_,by first|rfl|(simp [errW_none,errW_some] <;> rfl)|(simp [*,errW_none,errW_some] <;> rfl),by first|exact Kd.S_nil _ _ _ _ _|exact Kd.N_nil _ _ _ _ _|exact Kd.V_nil _ _ _ _ _|exact Kd.Q_nil _ _ _ _ _|exact Kd.R_nil _ _ _ _ _,by repeat (first|(with_reducible first|exact HB.out|apply below_alloc|apply pw_below_drewN|apply below_drew1|refine below_set ?_ GE194.out|refine below_set ?_ GE195.out)|exact HB.out)⟩

/-- A state of type 87 at block g of W; what its slices lead to came in by w0. -/
def IsS87 (w0 W : World) (g : Nat) (f0 : List Int) (f1 : Int) : Prop:=∃ A0 c0,W.heap[g]? = some (.cells #[.slice A0 f0.length c0,.int .i64 f1] 87 (0,0))∧w0.heap.size ≤ g∧Kd.C (Kd.int .u8) w0 A0 f0.length f0
theorem IsS87.grown {w0 W : World} {g : Nat} {f0 : List Int} {f1 : Int} {W1 : World} {row : Option Nat} (h : IsS87 w0 W g f0 f1) (hw : W.grownBy W1 row) (hne : some g ≠ row) : IsS87 w0 W1 g f0 f1:=by
 obtain ⟨A0,c0,hb,hg,hr0⟩:=h
 exact ⟨A0,c0,blk_grown hb hw hne,hg,hr0⟩
theorem IsS87.own_neN {w0 W : World} {g : Nat} {f0 : List Int} {f1 : Int} {α : Type} {d : Kd α} {e : Nat} {base : Nat} {ok : Nat→Prop} {v : Value} {xs : List α} (h : IsS87 w0 W g f0 f1) (ho : Kd.N d e W base ok v xs) (ht : e ≠ 87) : some g ≠ v.ownBlock:=by
 obtain ⟨A0,c0,hb,hg,hr0⟩:=h
 exact Kd.N_ne ho hb ht
theorem IsS87.fresh {w0 W : World} {g : Nat} {f0 : List Int} {f1 : Int} (h : IsS87 w0 W g f0 f1) : ∀ k,W.heap.size ≤ k→k ≠ g:=by
 obtain ⟨A0,c0,hb,hg,hr0⟩:=h
 exact Kd.freshB hb
theorem IsS87.kept {w0 W : World} {g : Nat} {f0 : List Int} {f1 : Int} {W1 : World} {S : Nat→Prop} (h : IsS87 w0 W g f0 f1) (hk : Kept W W1 S) (hne : ¬ S g) : IsS87 w0 W1 g f0 f1:=by
 obtain ⟨A0,c0,hb,hg,hr0⟩:=h
 exact ⟨A0,c0,blk_kept hb hk hne,hg,hr0⟩
theorem IsS87.below {w0 W : World} {g : Nat} {f0 : List Int} {f1 : Int} {W1 : World} (h : IsS87 w0 W g f0 f1) (hw : Below W.heap.size W W1) : IsS87 w0 W1 g f0 f1:=h.grown (grown_of_below hw none) (by simp)
theorem IsS87.alloc {w0 W : World} {g : Nat} {f0 : List Int} {f1 : Int} (h : IsS87 w0 W g f0 f1) (o : Obj) : IsS87 w0 (W.alloc o) g f0 f1:=h.below (below_alloc (Below.refl _ _) o)
theorem IsS87.drewN {w0 W : World} {g : Nat} {f0 : List Int} {f1 : Int} (h : IsS87 w0 W g f0 f1) (m : Nat) : IsS87 w0 (W.drewN m) g f0 f1:=h
theorem IsS87.drew {w0 W : World} {g : Nat} {f0 : List Int} {f1 : Int} (h : IsS87 w0 W g f0 f1) : IsS87 w0 W.drew g f0 f1:=h
theorem IsS87.at_ {w0 W : World} {g : Nat} {f0 : List Int} {f1 : Int} {w' : World} {m : Nat} (hq : W.drewN m=w') (h : IsS87 w0 W g f0 f1) : IsS87 w0 w' g f0 f1:=by subst hq;exact IsS87.drewN h m
theorem IsS87.apart {w0 W : World} {g : Nat} {f0 : List Int} {f1 : Int} {α : Type} {d : Kd α} {e : Nat} {base : Nat} {ok : Nat→Prop} {v : Value} {xs : List α} (h : IsS87 w0 W g f0 f1) (ho : d.R e W base ok v xs) (ht : ∀ q,q ∈ e :: d.E→q ≠ 87) : d.R e W base (fun k=>ok k∧k ≠ g) v xs:=by
 obtain ⟨A0,c0,hb,hg,hr0⟩:=h
 exact Kd.R_types ho hb ht
theorem IsS87.own_ne {w0 W : World} {g : Nat} {f0 : List Int} {f1 : Int} {α : Type} {d : Kd α} {e : Nat} {base : Nat} {ok : Nat→Prop} {v : Value} {xs : List α} (h : IsS87 w0 W g f0 f1) (ho : d.R e W base ok v xs) (ht : e ≠ 87) : some g ≠ v.ownBlock:=by
 obtain ⟨A0,c0,hb,hg,hr0⟩:=h
 exact Kd.R_ne ho hb ht
theorem IsS87.apartQ {w0 W : World} {g : Nat} {f0 : List Int} {f1 : Int} {α : Type} {d : Kd α} {e : Nat} {base : Nat} {ok : Nat→Prop} {v : Value} {xs : List α} (h : IsS87 w0 W g f0 f1) (ho : d.Q e W base ok v xs) (ht : ∀ q,q ∈ e :: d.E→q ≠ 87) : d.Q e W base (fun k=>ok k∧k ≠ g) v xs:=by
 obtain ⟨A0,c0,hb,hg,hr0⟩:=h
 exact Kd.Q_types ho hb ht
theorem IsS87.own_neQ {w0 W : World} {g : Nat} {f0 : List Int} {f1 : Int} {α : Type} {d : Kd α} {e : Nat} {base : Nat} {ok : Nat→Prop} {v : Value} {xs : List α} (h : IsS87 w0 W g f0 f1) (ho : d.Q e W base ok v xs) (ht : e ≠ 87) : some g ≠ v.ownBlock:=by
 obtain ⟨A0,c0,hb,hg,hr0⟩:=h
 exact Kd.Q_ne ho hb ht
theorem IsS87.apartS {w0 W : World} {g : Nat} {f0 : List Int} {f1 : Int} {α : Type} {d : Kd α} {e : Nat} {base : Nat} {ok : Nat→Prop} {v : Value} {xs : List α} (h : IsS87 w0 W g f0 f1) (ho : d.S e W base ok v xs) (ht : ∀ q,q ∈ e :: d.E→q ≠ 87) : d.S e W base (fun k=>ok k∧k ≠ g) v xs:=by
 obtain ⟨A0,c0,hb,hg,hr0⟩:=h
 exact Kd.S_types ho hb ht
theorem IsS87.own_neS {w0 W : World} {g : Nat} {f0 : List Int} {f1 : Int} {α : Type} {d : Kd α} {e : Nat} {base : Nat} {ok : Nat→Prop} {v : Value} {xs : List α} (h : IsS87 w0 W g f0 f1) (ho : d.S e W base ok v xs) (ht : e ≠ 87) : some g ≠ v.ownBlock:=by
 obtain ⟨A0,c0,hb,hg,hr0⟩:=h
 exact Kd.S_ne ho hb ht
theorem IsS87.lt {w0 W : World} {g : Nat} {f0 : List Int} {f1 : Int} (h : IsS87 w0 W g f0 f1) : g < W.heap.size:=by
 obtain ⟨A0,c0,hb,hg,hr0⟩:=h
 exact blk_lt hb
theorem IsS87.ge {w0 W : World} {g : Nat} {f0 : List Int} {f1 : Int} (h : IsS87 w0 W g f0 f1) : w0.heap.size ≤ g:=by
 obtain ⟨A0,c0,hb,hg,hr0⟩:=h
 exact hg
theorem IsS87.ne_blk {w0 W : World} {g : Nat} {f0 : List Int} {f1 : Int} {a : Nat} {cs : Array Value} {t : TypeId} {fr : Nat × Nat} (h : IsS87 w0 W g f0 f1) (hb2 : W.heap[a]? = some (.cells cs t fr)) (ht : t ≠ 87) : g ≠ a:=by
 obtain ⟨A0,c0,hb,hg,hr0⟩:=h
 rintro rfl
 rw [hb] at hb2
 injection hb2 with hb2
 injection hb2 with _ ht2
 exact ht ht2.symm
theorem IsS87.far {w0 W : World} {g : Nat} {f0 : List Int} {f1 : Int} {p : Addr} (h : IsS87 w0 W g f0 f1) (hne : g ≠ p.block) (u : Value) : IsS87 w0 (W.setCell p u) g f0 f1:=by
 obtain ⟨A0,c0,hb,hg,hr0⟩:=h
 exact ⟨A0,c0,blk_far hb hne u,hg,hr0⟩
theorem cellS87_0 {W : World} {g : Nat} {A0 : Option Addr} {c0 : Nat} {f0 : List Int} {f1 : Int} (h : W.heap[g]? = some (.cells #[.slice A0 f0.length c0,.int .i64 f1] 87 (0,0))) : W.cell? ⟨g,0,none⟩ = some (.slice A0 f0.length c0):=(blk_cell h 0).trans rfl
theorem cellS87_1 {W : World} {g : Nat} {A0 : Option Addr} {c0 : Nat} {f0 : List Int} {f1 : Int} (h : W.heap[g]? = some (.cells #[.slice A0 f0.length c0,.int .i64 f1] 87 (0,0))) : W.cell? ⟨g,1,none⟩ = some (.int .i64 f1):=(blk_cell h 1).trans rfl
theorem IsS87.set_1 {w0 W : World} {g : Nat} {f0 : List Int} {f1 : Int} (h : IsS87 w0 W g f0 f1) (x : Int) : IsS87 w0 (W.setCell ⟨g,1,none⟩ (.int .i64 x)) g f0 x:=by
 obtain ⟨A0,c0,hb,hg,hr0⟩:=h
 exact ⟨A0,c0,by simpa using blk_set hb 1 (.int .i64 x),hg,hr0⟩
theorem IsS87.new (w0 W : World) (A0 : Option Addr) (c0 : Nat) (f0 : List Int) (f1 : Int) (hB : Below w0.heap.size w0 W) (hr0 : Kd.C (Kd.int .u8) w0 A0 f0.length f0) : IsS87 w0 (W.alloc (.cells #[.slice A0 f0.length c0,.int .i64 f1] 87)) W.heap.size f0 f1:=⟨A0,c0,by simpa using heap_alloc_new W _,hB.size,hr0⟩

/-! ### spec_l6Open: function 47 -/
def spec_l6Open.f (l0 : List Int) : Option (List Int × Int):=if (l0.length : Int) > 2000 then (if 2000 ≤ (l0.length : Int) then (some (l0.take 2000,0)) else (none)) else (some (l0,0))
set_option maxHeartbeats 8000000 in
set_option maxRecDepth 100000 in
theorem spec_l6Open.calls (A0 : Option Addr) (c0 : Nat) (l0 : List Int) (r1 : List Int) (r2 : Int) (w0 w : World) (hB : Below w0.heap.size w0 w) (hr0 : Kd.C (Kd.int .u8) w0 A0 l0.length l0) (hc0 : l0.length ≤ c0) (h : spec_l6Open.f l0=some (r1,r2)) :
  Calls Try.prog 47 #[.slice A0 l0.length c0] w fun e w'=>∃ g_ : Nat,e = .returned (.pointer (some ⟨g_,0,none⟩))∧IsS87 w0 w' g_ r1 r2∧Below w0.heap.size w0 w'∧Below w.heap.size w w':=by
 have hu87:=Try.underlying87
 have HR0:=Aside0.mk hr0
 have HC0:=Aside0.mk hc0
 clear hr0 hc0
 have HBW:=Aside0.mk (Below.refl w.heap.size w)
 have HW0:=Aside0.mk hB.size
 have HB:=Aside0.mk hB
 clear hB
 have H : (if (l0.length : Int) > 2000 then (if 2000 ≤ (l0.length : Int) then (some (l0.take 2000,0)) else (none)) else (some (l0,0)))=some (r1,r2):=h
 clear h
 by_cases c2 : (l0.length : Int) > 2000
 ·rw [if_pos c2] at H
  have c2b0 : decide (2000 < (l0.length : Int))=true:=decide_eq_true c2
  have c2b1 : decide (2000 < l0.length)=true:=decide_eq_true (by omega)
  clear c2
  by_cases c3 : 2000 ≤ (l0.length : Int)
  ·rw [if_pos c3] at H
   have c3b0:=eq_true c3
   have c3b1 : decide (2000 ≤ (l0.length : Int))=true:=decide_eq_true c3
   clear c3
   simp only [Option.some.injEq,Prod.mk.injEq] at H
   obtain ⟨rfl,rfl⟩:=H
   obtain ⟨i04,hi04,_,hsz4,_⟩:=info_parts info5
   obtain ⟨hcut4,hA4,hC4⟩:=print_take_of (P:=Try.prog) (Value.int .u8) 0 22 5 .i64 Try.underlying22 hi04 hsz4 A0 c0 l0 2000 (by omega) (of_decide_eq_true (by first|(with_reducible assumption)|assumption)) HC0.out
   have HR213:=Aside0.mk (Kd.C_of_reads (h1:=fun _=>rfl) (hA4 _ (Kd.reads_of_C HR0.out)))
   have HC213:=Aside0.mk hC4
   clear hA4 hC4 hi04 hsz4
   go_enter Try.func47,Try.ntmps47
   go_wp2_with (first|((with_reducible refine gate_dst (N:=10) rfl ?_);refine box_event ?hg (N:=10) ?hd (cs:=#[.slice A0 (l0.take 2000).length c0,.int .i64 0]) (t:=87) ?hr ?_;(case hd=>rfl);(case hg=>rfl);(case hr=>first|(go_simp;done)|(go_simp;rfl));intro gb214 hg w5 hbox hb;have n0_:=Aside0.mk (below_step HBW.out hb);have n1_:=Aside0.mk (below_step (by repeat (first|(with_reducible first|exact HB.out|apply below_alloc|apply pw_below_drewN|apply below_drew1)|exact HB.out)) hb);have n2_:=Aside0.mk (hbox);have n3_:=Aside0.mk ((by rw [hg];exact (below_size (by repeat (first|(with_reducible first|exact HBW.out|apply below_alloc|apply pw_below_drewN|apply below_drew1)|exact HBW.out))) : w.heap.size ≤ gb214));have n4_:=Aside0.mk ((Nat.le_trans HW0.out (by rw [hg];exact (below_size (by repeat (first|(with_reducible first|exact HBW.out|apply below_alloc|apply pw_below_drewN|apply below_drew1)|exact HBW.out))) : w.heap.size ≤ gb214) : w0.heap.size ≤ gb214));clear HBW;clear HB;have HBW:=n0_;have HB:=n1_;have BK214:=n2_;have GW214:=n3_;have GE214:=n4_;clear n0_ n1_ n2_ n3_ n4_;clear hb hbox hg))
   go_ret
   exact ⟨_,rfl,(show IsS87 w0 _ gb214 (l0.take 2000) 0 from ⟨_,_,by (with_reducible repeat (first|refine blk_drewN ?_ _|refine blk_drew ?_|refine blk_alloc ?_ _));exact BK214.out,GE214.out,HR213.out⟩),by repeat (first|(with_reducible first|exact HB.out|apply below_alloc|apply pw_below_drewN|apply below_drew1|refine below_set ?_ GE214.out)|exact HB.out),by repeat (first|(with_reducible first|exact HBW.out|apply below_alloc|apply pw_below_drewN|apply below_drew1|refine below_set ?_ GW214.out)|exact HBW.out)⟩
  ·rw [if_neg c3] at H
   exact absurd H (by simp)
 ·rw [if_neg c2] at H
  have c2b0 : decide (2000 < (l0.length : Int))=false:=decide_eq_false c2
  have c2b1 : decide (2000 < l0.length)=false:=decide_eq_false (by omega)
  clear c2
  simp only [Option.some.injEq,Prod.mk.injEq] at H
  obtain ⟨rfl,rfl⟩:=H
  go_enter Try.func47,Try.ntmps47
  go_wp2_with (first|((with_reducible refine gate_dst (N:=10) rfl ?_);refine box_event ?hg (N:=10) ?hd (cs:=#[.slice A0 l0.length c0,.int .i64 0]) (t:=87) ?hr ?_;(case hd=>rfl);(case hg=>rfl);(case hr=>first|(go_simp;done)|(go_simp;rfl));intro gb215 hg w6 hbox hb;have n0_:=Aside0.mk (below_step HBW.out hb);have n1_:=Aside0.mk (below_step (by repeat (first|(with_reducible first|exact HB.out|apply below_alloc|apply pw_below_drewN|apply below_drew1)|exact HB.out)) hb);have n2_:=Aside0.mk (hbox);have n3_:=Aside0.mk ((by rw [hg];exact (below_size (by repeat (first|(with_reducible first|exact HBW.out|apply below_alloc|apply pw_below_drewN|apply below_drew1)|exact HBW.out))) : w.heap.size ≤ gb215));have n4_:=Aside0.mk ((Nat.le_trans HW0.out (by rw [hg];exact (below_size (by repeat (first|(with_reducible first|exact HBW.out|apply below_alloc|apply pw_below_drewN|apply below_drew1)|exact HBW.out))) : w.heap.size ≤ gb215) : w0.heap.size ≤ gb215));clear HBW;clear HB;have HBW:=n0_;have HB:=n1_;have BK215:=n2_;have GW215:=n3_;have GE215:=n4_;clear n0_ n1_ n2_ n3_ n4_;clear hb hbox hg))
  go_ret
  exact ⟨_,rfl,(show IsS87 w0 _ gb215 l0 0 from ⟨_,_,by (with_reducible repeat (first|refine blk_drewN ?_ _|refine blk_drew ?_|refine blk_alloc ?_ _));exact BK215.out,GE215.out,HR0.out⟩),by repeat (first|(with_reducible first|exact HB.out|apply below_alloc|apply pw_below_drewN|apply below_drew1|refine below_set ?_ GE215.out)|exact HB.out),by repeat (first|(with_reducible first|exact HBW.out|apply below_alloc|apply pw_below_drewN|apply below_drew1|refine below_set ?_ GW215.out)|exact HBW.out)⟩

/-! ### spec_l6Rd_pick: function 49 -/
def spec_l6Rd_pick.j0 : Nat→Int→Bool→List Int→Int→Option (Int × Int)
 | 0,_,_,_,_=>none
 | k + 1,x1,x24,x1000,x1001=>if x24=true then (some (0,x1001)) else (if (wrap64 (x1001 - 1)) < (x1000.length : Int) then (if 0 ≤ (wrap64 (x1001 - 1)) then (if x1=0 then (none) else (some (Int.tmod (wrap64 (rd x1000 (wrap64 (x1001 - 1)))) x1,x1001))) else (none)) else (if (x1000.length : Int)=0 then (none) else (if 0 ≤ (Int.tmod (wrap64 (x1001 - 1)) (x1000.length : Int)) then (if (Int.tmod (wrap64 (x1001 - 1)) (x1000.length : Int)) < (x1000.length : Int) then (if 0 ≤ (Int.tmod (wrap64 ((wrap64 ((wrap64 (x1001 - 1)) * 7)) + 3)) (x1000.length : Int)) then (if (Int.tmod (wrap64 ((wrap64 ((wrap64 (x1001 - 1)) * 7)) + 3)) (x1000.length : Int)) < (x1000.length : Int) then (if x1=0 then (none) else (some (Int.tmod (Go.bits .xor .i64 (wrap64 ((wrap64 ((wrap64 ((wrap64 ((wrap64 (rd x1000 (Int.tmod (wrap64 (x1001 - 1)) (x1000.length : Int)))) * 131)) + (wrap64 ((wrap64 (rd x1000 (Int.tmod (wrap64 ((wrap64 ((wrap64 (x1001 - 1)) * 7)) + 3)) (x1000.length : Int)))) * 1117)))) + (wrap64 ((wrap64 (x1001 - 1)) * 29)))) + (wrap64 ((wrap64 (Int.tdiv (wrap64 (x1001 - 1)) (x1000.length : Int))) * 53)))) (wrap64 (Int.tdiv (wrap64 ((wrap64 ((wrap64 ((wrap64 ((wrap64 (rd x1000 (Int.tmod (wrap64 (x1001 - 1)) (x1000.length : Int)))) * 131)) + (wrap64 ((wrap64 (rd x1000 (Int.tmod (wrap64 ((wrap64 ((wrap64 (x1001 - 1)) * 7)) + 3)) (x1000.length : Int)))) * 1117)))) + (wrap64 ((wrap64 (x1001 - 1)) * 29)))) + (wrap64 ((wrap64 (Int.tdiv (wrap64 (x1001 - 1)) (x1000.length : Int))) * 53)))) 64))) x1,x1001))) else (none)) else (none)) else (none)) else (none))))
def spec_l6Rd_pick.f (k : Nat) (s0_0 : List Int) (s0_1 : Int) (a1 : Int) : Option (Int × Int):=if a1 < 1 then (spec_l6Rd_pick.j0 k a1 true s0_0 (wrap64 (s0_1 + 1))) else (spec_l6Rd_pick.j0 k a1 ((s0_0.length : Int) == 0) s0_0 (wrap64 (s0_1 + 1)))
theorem spec_l6Rd_pick.mono_l : ∀ k,(∀ y0 y1 y2 y3,LeO (spec_l6Rd_pick.j0 k y0 y1 y2 y3) (spec_l6Rd_pick.j0 (k + 1) y0 y1 y2 y3))
 | 0=>fun _ _ _ _ r h=>by simp [spec_l6Rd_pick.j0] at h
 | k + 1=>by
  have ih0:=spec_l6Rd_pick.mono_l k
  ·intro y0 y1 y2 y3
   unfold spec_l6Rd_pick.j0
   repeat' first
   | (with_reducible exact ih0 _ _ _ _)
   | (with_reducible exact LeO.refl _)
   | (with_reducible exact LeO.none _)
   | (with_reducible refine LeO.ite ?_ ?_)
   | (with_reducible refine LeO.bind ?_ (fun _=>?_))
   | exact ih0 _ _ _ _
   | exact LeO.none _
   | refine LeO.ite ?_ ?_
   | refine LeO.bind ?_ (fun _=>?_)
theorem spec_l6Rd_pick.mono : ∀ a0 a1 a2 k,LeO (spec_l6Rd_pick.f k a0 a1 a2) (spec_l6Rd_pick.f (k + 1) a0 a1 a2):=by
 intro a0 a1 a2 k
 have ih0:=spec_l6Rd_pick.mono_l k
 unfold spec_l6Rd_pick.f
 repeat' first
   | (with_reducible exact ih0 _ _ _ _)
   | (with_reducible exact LeO.refl _)
   | (with_reducible exact LeO.none _)
   | (with_reducible refine LeO.ite ?_ ?_)
   | (with_reducible refine LeO.bind ?_ (fun _=>?_))
   | exact ih0 _ _ _ _
   | exact LeO.none _
   | refine LeO.ite ?_ ?_
   | refine LeO.bind ?_ (fun _=>?_)
set_option maxHeartbeats 8000000 in
set_option maxRecDepth 100000 in
theorem spec_l6Rd_pick.calls (k : Nat) (g : Nat) (s0_0 : List Int) (s0_1 : Int) (a1 : Int) (r1 : Int) (r2 : Int) (w0 w : World) (hI : IsS87 w0 w g s0_0 s0_1) (hB : Below w0.heap.size w0 w) (h : spec_l6Rd_pick.f k s0_0 s0_1 a1=some (r1,r2)) :
  Calls Try.prog 49 #[.pointer (some ⟨g,0,none⟩),.int .i64 a1] w fun e w'=>e = .returned (.int .i64 r1)∧IsS87 w0 w' g s0_0 r2∧Below w0.heap.size w0 w'∧KeepBut w w' g none:=by
 have HI0:=Aside0.mk hI
 have HK:=Aside0.mk (KeepBut.refl w g none)
 have HL:=Aside0.mk hB.size
 clear hI
 have HW0:=Aside0.mk hB.size
 have HB:=Aside0.mk hB
 clear hB
 have H : (if a1 < 1 then (spec_l6Rd_pick.j0 k a1 true s0_0 (wrap64 (s0_1 + 1))) else (spec_l6Rd_pick.j0 k a1 ((s0_0.length : Int) == 0) s0_0 (wrap64 (s0_1 + 1))))=some (r1,r2):=h
 clear h
 have HC3:=Aside0.mk H
 clear H
 obtain ⟨ASz4_0,cSz4_0,HGz4,hgz4,HSz4_0⟩:=HI0.out
 have hcz4_0:=cellS87_0 HGz4
 have hcz4_1:=cellS87_1 HGz4
 have hfz4_1:=blk_frozen HGz4 1
 clear HGz4 hgz4
 go_enter Try.func49,Try.ntmps49
 go_upto_region 2 with (fail)
 repeat (go_quiet (fail);go_upto_region 2 with (fail))
 go_cut [24] (fun v24 wc=>∃ (kq : Nat) (x24_2 : Bool),v24 = .bool x24_2∧Aside0 (spec_l6Rd_pick.j0 kq a1 x24_2 s0_0 (wrap64 (s0_1 + 1))=some (r1,r2))∧Aside0 (kq ≤ k)∧Aside0 (IsS87 w0 wc g s0_0 (wrap64 (s0_1 + 1)))∧Aside0 (KeepBut w wc g none)∧Aside0 (Below w0.heap.size w0 wc))
 case first =>
  have H:=HC3.out
  clear HC3
  by_cases c5 : a1 < 1
  ·rw [if_pos c5] at H
   have c5b0 : decide (a1 < 1)=true:=decide_eq_true c5
   clear c5
   (first|rw [c5b0]|(simp only [i64_w,i32_w];rw [c5b0])|skip)
   have H':=Aside0.mk H
   clear H
   go_wp2
   repeat (go_quiet (fail);try go_wp2)
   go_meet
   case rel=>exact ⟨_,(true),(by first|rfl|(simp;done)|(simp [*];done)),H',⟨by first|omega|exact Nat.le_refl _⟩,⟨by repeat (first|(with_reducible first|exact HI0.out|apply IsS87.alloc|apply IsS87.drewN|apply IsS87.drew|apply IsS87.set_1)|exact HI0.out)⟩,⟨by repeat (first|(with_reducible first|exact HK.out|apply KeepBut.set_|apply keep_drewN|apply keep_drew|apply keep_alloc)|exact HK.out)⟩,⟨by repeat (first|(with_reducible first|exact HB.out|apply below_alloc|apply pw_below_drewN|apply below_drew1|refine below_set ?_ (IsS87.ge HI0.out))|exact HB.out)⟩⟩
  ·rw [if_neg c5] at H
   have c5b0 : decide (a1 < 1)=false:=decide_eq_false c5
   clear c5
   (first|rw [c5b0]|(simp only [i64_w,i32_w];rw [c5b0])|skip)
   have H':=Aside0.mk H
   clear H
   obtain ⟨ASz6_0,cSz6_0,HGz6,hgz6,HSz6_0⟩:=HI0.out
   have hcz6_0:=cellS87_0 HGz6
   have hcz6_1:=cellS87_1 HGz6
   have hfz6_1:=blk_frozen HGz6 1
   clear HGz6 hgz6
   go_wp2
   repeat (go_quiet (fail);try go_wp2)
   go_meet
   case rel=>exact ⟨_,(((s0_0.length : Int) == 0)),(by first|rfl|(simp;done)|(simp [*];done)),H',⟨by first|omega|exact Nat.le_refl _⟩,⟨by repeat (first|(with_reducible first|exact HI0.out|apply IsS87.alloc|apply IsS87.drewN|apply IsS87.drew|apply IsS87.set_1)|exact HI0.out)⟩,⟨by repeat (first|(with_reducible first|exact HK.out|apply KeepBut.set_|apply keep_drewN|apply keep_drew|apply keep_alloc)|exact HK.out)⟩,⟨by repeat (first|(with_reducible first|exact HB.out|apply below_alloc|apply pw_below_drewN|apply below_drew1|refine below_set ?_ (IsS87.ge HI0.out))|exact HB.out)⟩⟩
 case rest =>
  clear HC3
  try clear p2
  try clear c4
  try clear c5
  try clear c5b0
  try clear p6
  try clear hcz4_0
  try clear hcz4_1
  try clear hcz6_0
  try clear hcz6_1
  try clear hfz4_1
  try clear hfz6_1
  obtain ⟨kq,x24_2,rfl,HA,HJ2,HI0,HK,HB⟩:=hcut
  cases kq with
  | zero=>exact absurd HA.out (by simp [spec_l6Rd_pick.j0])
  | succ kj2 =>
   have H:=HA.out
   clear HA
   simp only [spec_l6Rd_pick.j0] at H
   by_cases c7 : x24_2=true
   ·subst c7
    have H1 : (some (0,(wrap64 (s0_1 + 1))))=some (r1,r2):=by rw [if_pos rfl] at H;exact H
    clear H
    have H:=H1
    clear H1
    simp only [Option.some.injEq,Prod.mk.injEq] at H
    obtain ⟨rfl,rfl⟩:=H
    go_wp2
    repeat (go_quiet (fail);try go_wp2)
    go_ret
    exact ⟨by first|rfl|(simp [errW_none,errW_some] <;> rfl)|(simp [*,errW_none,errW_some] <;> rfl),by repeat (first|(with_reducible first|exact HI0.out|apply IsS87.alloc|apply IsS87.drewN|apply IsS87.drew|apply IsS87.set_1)|exact HI0.out),by repeat (first|(with_reducible first|exact HB.out|apply below_alloc|apply pw_below_drewN|apply below_drew1|refine below_set ?_ (IsS87.ge HI0.out))|exact HB.out),by repeat (first|(with_reducible first|exact HK.out|apply KeepBut.set_|apply keep_drewN|apply keep_drew|apply keep_alloc)|exact HK.out)⟩
   ·replace c7:=Bool.eq_false_iff.mpr c7
    subst c7
    have H1 : (if (wrap64 ((wrap64 (s0_1 + 1)) - 1)) < (s0_0.length : Int) then (if 0 ≤ (wrap64 ((wrap64 (s0_1 + 1)) - 1)) then (if a1=0 then (none) else (some (Int.tmod (wrap64 (rd s0_0 (wrap64 ((wrap64 (s0_1 + 1)) - 1)))) a1,(wrap64 (s0_1 + 1))))) else (none)) else (if (s0_0.length : Int)=0 then (none) else (if 0 ≤ (Int.tmod (wrap64 ((wrap64 (s0_1 + 1)) - 1)) (s0_0.length : Int)) then (if (Int.tmod (wrap64 ((wrap64 (s0_1 + 1)) - 1)) (s0_0.length : Int)) < (s0_0.length : Int) then (if 0 ≤ (Int.tmod (wrap64 ((wrap64 ((wrap64 ((wrap64 (s0_1 + 1)) - 1)) * 7)) + 3)) (s0_0.length : Int)) then (if (Int.tmod (wrap64 ((wrap64 ((wrap64 ((wrap64 (s0_1 + 1)) - 1)) * 7)) + 3)) (s0_0.length : Int)) < (s0_0.length : Int) then (if a1=0 then (none) else (some (Int.tmod (Go.bits .xor .i64 (wrap64 ((wrap64 ((wrap64 ((wrap64 ((wrap64 (rd s0_0 (Int.tmod (wrap64 ((wrap64 (s0_1 + 1)) - 1)) (s0_0.length : Int)))) * 131)) + (wrap64 ((wrap64 (rd s0_0 (Int.tmod (wrap64 ((wrap64 ((wrap64 ((wrap64 (s0_1 + 1)) - 1)) * 7)) + 3)) (s0_0.length : Int)))) * 1117)))) + (wrap64 ((wrap64 ((wrap64 (s0_1 + 1)) - 1)) * 29)))) + (wrap64 ((wrap64 (Int.tdiv (wrap64 ((wrap64 (s0_1 + 1)) - 1)) (s0_0.length : Int))) * 53)))) (wrap64 (Int.tdiv (wrap64 ((wrap64 ((wrap64 ((wrap64 ((wrap64 (rd s0_0 (Int.tmod (wrap64 ((wrap64 (s0_1 + 1)) - 1)) (s0_0.length : Int)))) * 131)) + (wrap64 ((wrap64 (rd s0_0 (Int.tmod (wrap64 ((wrap64 ((wrap64 ((wrap64 (s0_1 + 1)) - 1)) * 7)) + 3)) (s0_0.length : Int)))) * 1117)))) + (wrap64 ((wrap64 ((wrap64 (s0_1 + 1)) - 1)) * 29)))) + (wrap64 ((wrap64 (Int.tdiv (wrap64 ((wrap64 (s0_1 + 1)) - 1)) (s0_0.length : Int))) * 53)))) 64))) a1,(wrap64 (s0_1 + 1))))) else (none)) else (none)) else (none)) else (none))))=some (r1,r2):=by rw [if_neg (show ¬ (false=true) by decide)] at H;exact H
    clear H
    have H:=H1
    clear H1
    by_cases c8 : (wrap64 ((wrap64 (s0_1 + 1)) - 1)) < (s0_0.length : Int)
    ·rw [if_pos c8] at H
     have c8b0 : decide ((wrap64 ((wrap64 (s0_1 + 1)) - 1)) < (s0_0.length : Int))=true:=decide_eq_true c8
     clear c8
     obtain ⟨ji9,hji9⟩ : ∃ j_ : Int,(wrap64 ((wrap64 (s0_1 + 1)) - 1))=j_:=⟨_,rfl⟩
     replace H : (if 0 ≤ (ji9) then (if a1=0 then (none) else (some (Int.tmod (wrap64 (rd s0_0 (ji9))) a1,(wrap64 (s0_1 + 1))))) else (none))=some (r1,r2):=by first|(rw [hji9] at H;exact H)|(simp only [hji9] at H ⊢;exact H)
     (try rw [hji9] at c8b0)
     have hji9w : (IntKind.i64.wrap ((wrap64 (s0_1 + 1)) - 1))=ji9:=(i64_w _).trans hji9
     by_cases c10 : 0 ≤ (ji9)
     ·rw [if_pos c10] at H
      have c10b0 : decide (0 ≤ (ji9))=true:=decide_eq_true c10
      clear c10
      by_cases c11 : a1=0
      ·rw [if_pos c11] at H
       exact absurd H (by simp)
      ·rw [if_neg c11] at H
       have c11b0 : (a1 == 0)=false:=beq_eq_false_iff_ne.mpr c11
       have c11b1 : (a1 != 0)=true:=bne_iff_ne.mpr c11
       simp only [Option.some.injEq,Prod.mk.injEq] at H
       obtain ⟨rfl,rfl⟩:=H
       obtain ⟨ASz12_0,cSz12_0,HGz12,hgz12,HSz12_0⟩:=HI0.out
       have hcz12_0:=cellS87_0 HGz12
       have hcz12_1:=cellS87_1 HGz12
       have hfz12_1:=blk_frozen HGz12 1
       clear HGz12 hgz12
       have p216 : 0 ≤ ((ji9) : Int):=of_decide_eq_true (by first|(with_reducible assumption)|assumption)
       have q216 : (ji9) < (s0_0.length : Int):=of_decide_eq_true (by first|(with_reducible assumption)|assumption)
       obtain ⟨ad216,e216,hx216_0⟩:=Kd.at_int HSz12_0 (ji9) p216 q216
       cases e216
       replace hx216_0:=pw_cell_below HB.out hx216_0
       replace p216:=eq_true p216
       replace q216:=eq_true q216
       go_wp2
       repeat (go_quiet (fail);try go_wp2)
       go_ret
       exact ⟨by first|rfl|(simp [errW_none,errW_some] <;> rfl)|(simp only [← hji9];first|rfl|(simp [errW_none,errW_some] <;> rfl))|(simp [*,errW_none,errW_some] <;> rfl),by repeat (first|(with_reducible first|exact HI0.out|apply IsS87.alloc|apply IsS87.drewN|apply IsS87.drew|apply IsS87.set_1)|exact HI0.out),by repeat (first|(with_reducible first|exact HB.out|apply below_alloc|apply pw_below_drewN|apply below_drew1|refine below_set ?_ (IsS87.ge HI0.out))|exact HB.out),by repeat (first|(with_reducible first|exact HK.out|apply KeepBut.set_|apply keep_drewN|apply keep_drew|apply keep_alloc)|exact HK.out)⟩
     ·rw [if_neg c10] at H
      exact absurd H (by simp)
    ·rw [if_neg c8] at H
     have c8b0 : decide ((wrap64 ((wrap64 (s0_1 + 1)) - 1)) < (s0_0.length : Int))=false:=decide_eq_false c8
     clear c8
     by_cases c13 : (s0_0.length : Int)=0
     ·rw [if_pos c13] at H
      exact absurd H (by simp)
     ·rw [if_neg c13] at H
      have c13b0 : ((s0_0.length : Int) == 0)=false:=beq_eq_false_iff_ne.mpr c13
      have c13b1 : ((s0_0.length : Int) != 0)=true:=bne_iff_ne.mpr c13
      have c13b2 : ¬ (s0_0 = []):=fun h_=>c13 (by rw [h_];rfl)
      obtain ⟨ji14,hji14⟩ : ∃ j_ : Int,(Int.tmod (wrap64 ((wrap64 (s0_1 + 1)) - 1)) (s0_0.length : Int))=j_:=⟨_,rfl⟩
      replace H : (if 0 ≤ (ji14) then (if (ji14) < (s0_0.length : Int) then (if 0 ≤ (Int.tmod (wrap64 ((wrap64 ((wrap64 ((wrap64 (s0_1 + 1)) - 1)) * 7)) + 3)) (s0_0.length : Int)) then (if (Int.tmod (wrap64 ((wrap64 ((wrap64 ((wrap64 (s0_1 + 1)) - 1)) * 7)) + 3)) (s0_0.length : Int)) < (s0_0.length : Int) then (if a1=0 then (none) else (some (Int.tmod (Go.bits .xor .i64 (wrap64 ((wrap64 ((wrap64 ((wrap64 ((wrap64 (rd s0_0 (ji14))) * 131)) + (wrap64 ((wrap64 (rd s0_0 (Int.tmod (wrap64 ((wrap64 ((wrap64 ((wrap64 (s0_1 + 1)) - 1)) * 7)) + 3)) (s0_0.length : Int)))) * 1117)))) + (wrap64 ((wrap64 ((wrap64 (s0_1 + 1)) - 1)) * 29)))) + (wrap64 ((wrap64 (Int.tdiv (wrap64 ((wrap64 (s0_1 + 1)) - 1)) (s0_0.length : Int))) * 53)))) (wrap64 (Int.tdiv (wrap64 ((wrap64 ((wrap64 ((wrap64 ((wrap64 (rd s0_0 (ji14))) * 131)) + (wrap64 ((wrap64 (rd s0_0 (Int.tmod (wrap64 ((wrap64 ((wrap64 ((wrap64 (s0_1 + 1)) - 1)) * 7)) + 3)) (s0_0.length : Int)))) * 1117)))) + (wrap64 ((wrap64 ((wrap64 (s0_1 + 1)) - 1)) * 29)))) + (wrap64 ((wrap64 (Int.tdiv (wrap64 ((wrap64 (s0_1 + 1)) - 1)) (s0_0.length : Int))) * 53)))) 64))) a1,(wrap64 (s0_1 + 1))))) else (none)) else (none)) else (none)) else (none))=some (r1,r2):=by first|(rw [hji14] at H;exact H)|(simp only [hji14] at H ⊢;exact H)
      by_cases c15 : 0 ≤ (ji14)
      ·rw [if_pos c15] at H
       have c15b0 : decide (0 ≤ (ji14))=true:=decide_eq_true c15
       clear c15
       by_cases c16 : (ji14) < (s0_0.length : Int)
       ·rw [if_pos c16] at H
        have c16b0 : decide ((ji14) < (s0_0.length : Int))=true:=decide_eq_true c16
        clear c16
        obtain ⟨ji17,hji17⟩ : ∃ j_ : Int,(Int.tmod (wrap64 ((wrap64 ((wrap64 ((wrap64 (s0_1 + 1)) - 1)) * 7)) + 3)) (s0_0.length : Int))=j_:=⟨_,rfl⟩
        replace H : (if 0 ≤ (ji17) then (if (ji17) < (s0_0.length : Int) then (if a1=0 then (none) else (some (Int.tmod (Go.bits .xor .i64 (wrap64 ((wrap64 ((wrap64 ((wrap64 ((wrap64 (rd s0_0 (ji14))) * 131)) + (wrap64 ((wrap64 (rd s0_0 (ji17))) * 1117)))) + (wrap64 ((wrap64 ((wrap64 (s0_1 + 1)) - 1)) * 29)))) + (wrap64 ((wrap64 (Int.tdiv (wrap64 ((wrap64 (s0_1 + 1)) - 1)) (s0_0.length : Int))) * 53)))) (wrap64 (Int.tdiv (wrap64 ((wrap64 ((wrap64 ((wrap64 ((wrap64 (rd s0_0 (ji14))) * 131)) + (wrap64 ((wrap64 (rd s0_0 (ji17))) * 1117)))) + (wrap64 ((wrap64 ((wrap64 (s0_1 + 1)) - 1)) * 29)))) + (wrap64 ((wrap64 (Int.tdiv (wrap64 ((wrap64 (s0_1 + 1)) - 1)) (s0_0.length : Int))) * 53)))) 64))) a1,(wrap64 (s0_1 + 1))))) else (none)) else (none))=some (r1,r2):=by first|(rw [hji17] at H;exact H)|(simp only [hji17] at H ⊢;exact H)
        by_cases c18 : 0 ≤ (ji17)
        ·rw [if_pos c18] at H
         have c18b0 : decide (0 ≤ (ji17))=true:=decide_eq_true c18
         clear c18
         by_cases c19 : (ji17) < (s0_0.length : Int)
         ·rw [if_pos c19] at H
          have c19b0 : decide ((ji17) < (s0_0.length : Int))=true:=decide_eq_true c19
          clear c19
          by_cases c20 : a1=0
          ·rw [if_pos c20] at H
           exact absurd H (by simp)
          ·rw [if_neg c20] at H
           have c20b0 : (a1 == 0)=false:=beq_eq_false_iff_ne.mpr c20
           have c20b1 : (a1 != 0)=true:=bne_iff_ne.mpr c20
           simp only [Option.some.injEq,Prod.mk.injEq] at H
           obtain ⟨rfl,rfl⟩:=H
           obtain ⟨ASz21_0,cSz21_0,HGz21,hgz21,HSz21_0⟩:=HI0.out
           have hcz21_0:=cellS87_0 HGz21
           have hcz21_1:=cellS87_1 HGz21
           have hfz21_1:=blk_frozen HGz21 1
           clear HGz21 hgz21
           have p217 : 0 ≤ ((ji14) : Int):=of_decide_eq_true (by first|(with_reducible assumption)|assumption)
           have q217 : (ji14) < (s0_0.length : Int):=of_decide_eq_true (by first|(with_reducible assumption)|assumption)
           obtain ⟨ad217,e217,hx217_0⟩:=Kd.at_int HSz21_0 (ji14) p217 q217
           cases e217
           replace hx217_0:=pw_cell_below HB.out hx217_0
           replace p217:=eq_true p217
           replace q217:=eq_true q217
           have p218 : 0 ≤ ((ji17) : Int):=of_decide_eq_true (by first|(with_reducible assumption)|assumption)
           have q218 : (ji17) < (s0_0.length : Int):=of_decide_eq_true (by first|(with_reducible assumption)|assumption)
           obtain ⟨ad218,e218,hx218_0⟩:=Kd.at_int HSz21_0 (ji17) p218 q218
           obtain rfl : ad217=ad218:=(by injection e218)
           replace hx218_0:=pw_cell_below HB.out hx218_0
           replace p218:=eq_true p218
           replace q218:=eq_true q218
           go_wp2
           repeat (go_quiet (fail);try go_wp2)
           go_ret
           exact ⟨by first|rfl|(simp [errW_none,errW_some] <;> rfl)|(simp only [← hji14, ← hji17];first|rfl|(simp [errW_none,errW_some] <;> rfl))|(simp [*,errW_none,errW_some] <;> rfl),by repeat (first|(with_reducible first|exact HI0.out|apply IsS87.alloc|apply IsS87.drewN|apply IsS87.drew|apply IsS87.set_1)|exact HI0.out),by repeat (first|(with_reducible first|exact HB.out|apply below_alloc|apply pw_below_drewN|apply below_drew1|refine below_set ?_ (IsS87.ge HI0.out))|exact HB.out),by repeat (first|(with_reducible first|exact HK.out|apply KeepBut.set_|apply keep_drewN|apply keep_drew|apply keep_alloc)|exact HK.out)⟩
         ·rw [if_neg c19] at H
          exact absurd H (by simp)
        ·rw [if_neg c18] at H
         exact absurd H (by simp)
       ·rw [if_neg c16] at H
        exact absurd H (by simp)
      ·rw [if_neg c15] at H
       exact absurd H (by simp)

end Go.Proofs.Ytmpnedpokdaejaa.QFnTurn
