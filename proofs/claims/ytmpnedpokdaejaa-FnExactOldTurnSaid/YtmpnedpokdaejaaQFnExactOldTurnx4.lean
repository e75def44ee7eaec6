-- Written by this session's program wip/ownprint.py.
import Derived.Test.YtmpnedpokdaejaaQFnExactOldTurnx0
import Derived.Test.YtmpnedpokdaejaaQFnExactOldTurnx1
import Derived.Test.YtmpnedpokdaejaaQFnExactOldTurnx2
import Derived.Test.YtmpnedpokdaejaaQFnExactOldTurnx3
namespace Go.Proofs.Ytmpnedpokdaejaa.QFnExactOldTurn
open Go.RowKit Go.Proofs.YtmpnedpokdaejaaW.PrintWords Go.Proofs.YtmpnedpokdaejaaW.PrintLast Go.Proofs.YtmpnedpokdaejaaW.PrintMore
attribute [local go_sem] max2_int min2_int max_two min_two max_three min_three max_four min_four   -- for this text's walks alone
set_option linter.unusedVariables false
set_option linter.unusedSimpArgs false

/-! ### spec_BatchValid: function 62 -/
def spec_BatchValid.j0 : Nat→Bool→Bool→Bool→Int→Int→Int→List (S57)→Option (Bool)
 | 0,_,_,_,_,_,_,_=>none
 | k + 1,x24,x147000,x147001,x147002,x147003,x147004,x147005=>if x24=true then (some false) else (if x147002=255 then (if x147003=0 then (if x147004=0 then (some (!x147001)) else (some false)) else (some false)) else (if x147001=true then (some ((x147005.length : Int) == 1)) else (some true)))
def spec_BatchValid.f (k : Nat) (a0_0 : Bool) (a0_1 : Bool) (a0_2 : Int) (a0_3 : Int) (a0_4 : Int) (l0_5 : List (S57)) : Option (Bool):=(spec_l5Records.f k l0_5).bind fun t147=>(if t147=true then ((spec_l6In.f a0_2 0 255).bind fun t148=>(if t148=true then ((spec_l6In.f a0_3 0 99).bind fun t149=>(if t149=true then ((spec_l6In.f a0_4 0 9999).bind fun t150=>(spec_BatchValid.j0 k (!t150) a0_0 a0_1 a0_2 a0_3 a0_4 l0_5)) else (spec_BatchValid.j0 k true a0_0 a0_1 a0_2 a0_3 a0_4 l0_5))) else (spec_BatchValid.j0 k true a0_0 a0_1 a0_2 a0_3 a0_4 l0_5))) else (spec_BatchValid.j0 k true a0_0 a0_1 a0_2 a0_3 a0_4 l0_5))
theorem spec_BatchValid.mono_l : ∀ k,(∀ y0 y1 y2 y3 y4 y5 y6,LeO (spec_BatchValid.j0 k y0 y1 y2 y3 y4 y5 y6) (spec_BatchValid.j0 (k + 1) y0 y1 y2 y3 y4 y5 y6))
 | 0=>fun _ _ _ _ _ _ _ r h=>by simp [spec_BatchValid.j0] at h
 | k + 1=>by
  have ih0:=spec_BatchValid.mono_l k
  ·intro y0 y1 y2 y3 y4 y5 y6
   unfold spec_BatchValid.j0
   repeat' first
   | (with_reducible exact ih0 _ _ _ _ _ _ _)
   | (with_reducible exact spec_l5Records.mono _ _)
   | (with_reducible exact LeO.refl _)
   | (with_reducible exact LeO.none _)
   | (with_reducible refine LeO.ite ?_ ?_)
   | (with_reducible refine LeO.bind ?_ (fun _=>?_))
   | exact ih0 _ _ _ _ _ _ _
   | exact spec_l5Records.mono _ _
   | exact LeO.none _
   | refine LeO.ite ?_ ?_
   | refine LeO.bind ?_ (fun _=>?_)
theorem spec_BatchValid.mono : ∀ a0 a1 a2 a3 a4 a5 k,LeO (spec_BatchValid.f k a0 a1 a2 a3 a4 a5) (spec_BatchValid.f (k + 1) a0 a1 a2 a3 a4 a5):=by
 intro a0 a1 a2 a3 a4 a5 k
 have ih0:=spec_BatchValid.mono_l k
 unfold spec_BatchValid.f
 repeat' first
   | (with_reducible exact ih0 _ _ _ _ _ _ _)
   | (with_reducible exact spec_l5Records.mono _ _)
   | (with_reducible exact LeO.refl _)
   | (with_reducible exact LeO.none _)
   | (with_reducible refine LeO.ite ?_ ?_)
   | (with_reducible refine LeO.bind ?_ (fun _=>?_))
   | exact ih0 _ _ _ _ _ _ _
   | exact spec_l5Records.mono _ _
   | exact LeO.none _
   | refine LeO.ite ?_ ?_
   | refine LeO.bind ?_ (fun _=>?_)
set_option maxHeartbeats 8000000 in
set_option maxRecDepth 100000 in
theorem spec_BatchValid.calls (k : Nat) (a0_0 : Bool) (a0_1 : Bool) (a0_2 : Int) (a0_3 : Int) (a0_4 : Int) (A0_5 : Option Addr) (c0_5 : Nat) (l0_5 : List (S57)) (r : Bool) (w : World) (hr0_5 : Kd.C k57 w A0_5 l0_5.length l0_5) (hc0_5 : l0_5.length ≤ c0_5) (h : spec_BatchValid.f k a0_0 a0_1 a0_2 a0_3 a0_4 l0_5=some r) :
  Calls Try.prog 62 #[.agg #[.bool a0_0,.bool a0_1,.int .i64 a0_2,.int .i64 a0_3,.int .i64 a0_4,.slice A0_5 l0_5.length c0_5]] w fun e w'=>e = .returned (.bool r)∧Below w.heap.size w w':=by
 have hu39:=Try.underlying39
 have HR0_5:=Aside0.mk hr0_5
 have HC0_5:=Aside0.mk hc0_5
 clear hr0_5 hc0_5
 have HB:=Aside0.mk (Below.refl w.heap.size w)
 have H : ((spec_l5Records.f k l0_5).bind fun t147=>(if t147=true then ((spec_l6In.f a0_2 0 255).bind fun t148=>(if t148=true then ((spec_l6In.f a0_3 0 99).bind fun t149=>(if t149=true then ((spec_l6In.f a0_4 0 9999).bind fun t150=>(spec_BatchValid.j0 k (!t150) a0_0 a0_1 a0_2 a0_3 a0_4 l0_5)) else (spec_BatchValid.j0 k true a0_0 a0_1 a0_2 a0_3 a0_4 l0_5))) else (spec_BatchValid.j0 k true a0_0 a0_1 a0_2 a0_3 a0_4 l0_5))) else (spec_BatchValid.j0 k true a0_0 a0_1 a0_2 a0_3 a0_4 l0_5)))=some r:=h
 clear h
 have HC2:=Aside0.mk H
 clear H
 go_enter Try.func62,Try.ntmps62
 go_upto_region 1 with (first|((with_reducible refine gate_dst (N:=1) rfl ?_);(try (refine gate_guard (by rfl) ?_;dsimp only));refine box_event ?hg (N:=1) ?hd (cs:=#[.bool a0_0,.bool a0_1,.int .i64 a0_2,.int .i64 a0_3,.int .i64 a0_4,.slice A0_5 l0_5.length c0_5]) (t:=39) ?hr ?_;(case hd=>rfl);(case hg=>rfl);(case hr=>first|(go_simp;done)|(go_simp;rfl));intro gb146 hg w3 hbox hb;have n0_:=Aside0.mk (below_step (by repeat (first|(with_reducible first|exact HB.out|apply below_alloc|apply pw_below_drewN|apply below_drew1)|exact HB.out)) hb);have n1_:=Aside0.mk (hbox);have n2_:=Aside0.mk ((by rw [hg];exact (below_size (by repeat (first|(with_reducible first|exact HB.out|apply below_alloc|apply pw_below_drewN|apply below_drew1)|exact HB.out))) : w.heap.size ≤ gb146));have n3_:=Aside0.mk ((by rw [hg];exact (below_size (by repeat (first|(with_reducible first|exact HB.out|apply below_alloc|apply pw_below_drewN|apply below_drew1)|exact HB.out))) : w.heap.size ≤ gb146));clear HB;have HB:=n0_;have BK146:=n1_;have GW146:=n2_;have GE146:=n3_;clear n0_ n1_ n2_ n3_;clear hb hbox hg))
 (try simp only [Act.put,List.setIfInBounds_toArray,List.set_cons_zero,List.set_cons_succ])
 go_cut [24] (fun v24 wc=>∃ (kq : Nat) (x24_1 : Bool),v24 = .bool x24_1∧Aside0 (spec_BatchValid.j0 kq x24_1 a0_0 a0_1 a0_2 a0_3 a0_4 l0_5=some r)∧Aside0 (kq ≤ k)∧Aside0 (wc.heap[gb146]? = some (.cells #[.bool a0_0,.bool a0_1,.int .i64 a0_2,.int .i64 a0_3,.int .i64 a0_4,(.slice A0_5 l0_5.length c0_5)] 39 (0,0)))∧Aside0 (Below w.heap.size w wc))
 case first =>
  have H:=HC2.out
  clear HC2
  replace H:=Option.bind_eq_some_iff.mp H
  obtain ⟨t147,A40,H⟩:=H
  replace H : (if t147=true then ((spec_l6In.f a0_2 0 255).bind fun t148=>(if t148=true then ((spec_l6In.f a0_3 0 99).bind fun t149=>(if t149=true then ((spec_l6In.f a0_4 0 9999).bind fun t150=>(spec_BatchValid.j0 k (!t150) a0_0 a0_1 a0_2 a0_3 a0_4 l0_5)) else (spec_BatchValid.j0 k true a0_0 a0_1 a0_2 a0_3 a0_4 l0_5))) else (spec_BatchValid.j0 k true a0_0 a0_1 a0_2 a0_3 a0_4 l0_5))) else (spec_BatchValid.j0 k true a0_0 a0_1 a0_2 a0_3 a0_4 l0_5))=some r:=H
  have A4:=Aside0.mk A40
  clear A40
  by_cases c5 : t147=true
  ·subst c5
   have H1 : ((spec_l6In.f a0_2 0 255).bind fun t148=>(if t148=true then ((spec_l6In.f a0_3 0 99).bind fun t149=>(if t149=true then ((spec_l6In.f a0_4 0 9999).bind fun t150=>(spec_BatchValid.j0 k (!t150) a0_0 a0_1 a0_2 a0_3 a0_4 l0_5)) else (spec_BatchValid.j0 k true a0_0 a0_1 a0_2 a0_3 a0_4 l0_5))) else (spec_BatchValid.j0 k true a0_0 a0_1 a0_2 a0_3 a0_4 l0_5)))=some r:=by rw [if_pos rfl] at H;exact H
   clear H
   have H:=H1
   clear H1
   replace H:=Option.bind_eq_some_iff.mp H
   obtain ⟨t148,A60,H⟩:=H
   replace H : (if t148=true then ((spec_l6In.f a0_3 0 99).bind fun t149=>(if t149=true then ((spec_l6In.f a0_4 0 9999).bind fun t150=>(spec_BatchValid.j0 k (!t150) a0_0 a0_1 a0_2 a0_3 a0_4 l0_5)) else (spec_BatchValid.j0 k true a0_0 a0_1 a0_2 a0_3 a0_4 l0_5))) else (spec_BatchValid.j0 k true a0_0 a0_1 a0_2 a0_3 a0_4 l0_5))=some r:=H
   have A6:=Aside0.mk A60
   clear A60
   by_cases c7 : t148=true
   ·subst c7
    have H1 : ((spec_l6In.f a0_3 0 99).bind fun t149=>(if t149=true then ((spec_l6In.f a0_4 0 9999).bind fun t150=>(spec_BatchValid.j0 k (!t150) a0_0 a0_1 a0_2 a0_3 a0_4 l0_5)) else (spec_BatchValid.j0 k true a0_0 a0_1 a0_2 a0_3 a0_4 l0_5)))=some r:=by rw [if_pos rfl] at H;exact H
    clear H
    have H:=H1
    clear H1
    replace H:=Option.bind_eq_some_iff.mp H
    obtain ⟨t149,A80,H⟩:=H
    replace H : (if t149=true then ((spec_l6In.f a0_4 0 9999).bind fun t150=>(spec_BatchValid.j0 k (!t150) a0_0 a0_1 a0_2 a0_3 a0_4 l0_5)) else (spec_BatchValid.j0 k true a0_0 a0_1 a0_2 a0_3 a0_4 l0_5))=some r:=H
    have A8:=Aside0.mk A80
    clear A80
    by_cases c9 : t149=true
    ·subst c9
     have H1 : ((spec_l6In.f a0_4 0 9999).bind fun t150=>(spec_BatchValid.j0 k (!t150) a0_0 a0_1 a0_2 a0_3 a0_4 l0_5))=some r:=by rw [if_pos rfl] at H;exact H
     clear H
     have H:=H1
     clear H1
     replace H:=Option.bind_eq_some_iff.mp H
     obtain ⟨t150,A100,H⟩:=H
     replace H : (spec_BatchValid.j0 k (!t150) a0_0 a0_1 a0_2 a0_3 a0_4 l0_5)=some r:=H
     have A10:=Aside0.mk A100
     clear A100
     have H':=Aside0.mk H
     clear H
     have hcz11_0 : w3.cell? ⟨gb146,0,none⟩ = some (.bool a0_0):=(blk_cell BK146.out 0).trans rfl
     have hcz11_1 : w3.cell? ⟨gb146,1,none⟩ = some (.bool a0_1):=(blk_cell BK146.out 1).trans rfl
     have hcz11_2 : w3.cell? ⟨gb146,2,none⟩ = some (.int .i64 a0_2):=(blk_cell BK146.out 2).trans rfl
     have hcz11_3 : w3.cell? ⟨gb146,3,none⟩ = some (.int .i64 a0_3):=(blk_cell BK146.out 3).trans rfl
     have hcz11_4 : w3.cell? ⟨gb146,4,none⟩ = some (.int .i64 a0_4):=(blk_cell BK146.out 4).trans rfl
     have hcz11_5 : w3.cell? ⟨gb146,5,none⟩ = some (.slice A0_5 l0_5.length c0_5):=(blk_cell BK146.out 5).trans rfl
     have hfz11_0:=blk_frozen BK146.out 0
     have hfz11_1:=blk_frozen BK146.out 1
     have hfz11_2:=blk_frozen BK146.out 2
     have hfz11_3:=blk_frozen BK146.out 3
     have hfz11_4:=blk_frozen BK146.out 4
     have hfz11_5:=blk_frozen BK146.out 5
     go_wp2_with (first|((with_reducible refine gate_callee (f:=84) rfl ?_);refine goesL_ (some 5) rfl rfl Try.func84 (by kernel_rfl) rfl #[.slice A0_5 l0_5.length c0_5] rfl (by (try simp only [List.map_toArray,List.map_cons,List.map_nil]);first|done|rfl|(simp only [List.length_drop,List.length_take];rfl)) ?_;(with_reducible refine (spec_l5Records.calls k _ _ l0_5 true _ ?side1 ?side2 A4.out).mono ?_);(case side1=>repeat (first|exact (Kd.C_below HR0_5.out HB.out)|(with_reducible refine Kd.C_alloc ?_ _)|(with_reducible refine Kd.C_drewN ?_ _)|(with_reducible refine Kd.C_drew ?_)));(case side2=>exact HC0_5.out);rintro e w12 ⟨rfl,hb⟩;refine ⟨_,rfl,?_⟩;have n0_:=Aside0.mk (blk_below (g:=gb146) (o:=.cells #[.bool a0_0,.bool a0_1,.int .i64 a0_2,.int .i64 a0_3,.int .i64 a0_4,.slice A0_5 l0_5.length c0_5] 39 (0,0)) (by (with_reducible repeat (first|refine blk_drewN ?_ _|refine blk_drew ?_|refine blk_alloc ?_ _));exact BK146.out) hb);have n1_:=Aside0.mk (below_step (by repeat (first|(with_reducible first|exact HB.out|apply below_alloc|apply pw_below_drewN|apply below_drew1|refine below_set ?_ GE146.out)|exact HB.out)) hb);clear BK146;clear HB;have BK146:=n0_;have HB:=n1_;clear n0_ n1_;(try clear hb);(try clear hb2);(try clear hk);(try clear hi);have hcz13_0 : w12.cell? ⟨gb146,0,none⟩ = some (.bool a0_0):=(blk_cell BK146.out 0).trans rfl;have hcz13_1 : w12.cell? ⟨gb146,1,none⟩ = some (.bool a0_1):=(blk_cell BK146.out 1).trans rfl;have hcz13_2 : w12.cell? ⟨gb146,2,none⟩ = some (.int .i64 a0_2):=(blk_cell BK146.out 2).trans rfl;have hcz13_3 : w12.cell? ⟨gb146,3,none⟩ = some (.int .i64 a0_3):=(blk_cell BK146.out 3).trans rfl;have hcz13_4 : w12.cell? ⟨gb146,4,none⟩ = some (.int .i64 a0_4):=(blk_cell BK146.out 4).trans rfl;have hcz13_5 : w12.cell? ⟨gb146,5,none⟩ = some (.slice A0_5 l0_5.length c0_5):=(blk_cell BK146.out 5).trans rfl;have hfz13_0:=blk_frozen BK146.out 0;have hfz13_1:=blk_frozen BK146.out 1;have hfz13_2:=blk_frozen BK146.out 2;have hfz13_3:=blk_frozen BK146.out 3;have hfz13_4:=blk_frozen BK146.out 4;have hfz13_5:=blk_frozen BK146.out 5)|(go_at_call 80;(with_reducible refine (spec_l6In.calls a0_2 0 255 true _ A6.out).mono ?_);rintro e w' ⟨rfl,⟨nd,rfl⟩⟩)|(go_at_call 80;(with_reducible refine (spec_l6In.calls a0_3 0 99 true _ A8.out).mono ?_);rintro e w' ⟨rfl,⟨nd,rfl⟩⟩)|(go_at_call 80;(with_reducible refine (spec_l6In.calls a0_4 0 9999 t150 _ A10.out).mono ?_);rintro e w' ⟨rfl,⟨nd,rfl⟩⟩))
     go_meet
     case rel=>exact ⟨_,(!t150),(by first|rfl|(simp;done)|(simp [*];done)),H',⟨by first|omega|exact Nat.le_refl _⟩,⟨by (with_reducible repeat (first|refine blk_drewN ?_ _|refine blk_drew ?_|refine blk_alloc ?_ _));exact BK146.out⟩,⟨by repeat (first|(with_reducible first|exact HB.out|apply below_alloc|apply pw_below_drewN|apply below_drew1|refine below_set ?_ GE146.out)|exact HB.out)⟩⟩
    ·replace c9:=Bool.eq_false_iff.mpr c9
     subst c9
     have H1 : (spec_BatchValid.j0 k true a0_0 a0_1 a0_2 a0_3 a0_4 l0_5)=some r:=by rw [if_neg (show ¬ (false=true) by decide)] at H;exact H
     clear H
     have H:=H1
     clear H1
     have H':=Aside0.mk H
     clear H
     have hcz14_0 : w3.cell? ⟨gb146,0,none⟩ = some (.bool a0_0):=(blk_cell BK146.out 0).trans rfl
     have hcz14_1 : w3.cell? ⟨gb146,1,none⟩ = some (.bool a0_1):=(blk_cell BK146.out 1).trans rfl
     have hcz14_2 : w3.cell? ⟨gb146,2,none⟩ = some (.int .i64 a0_2):=(blk_cell BK146.out 2).trans rfl
     have hcz14_3 : w3.cell? ⟨gb146,3,none⟩ = some (.int .i64 a0_3):=(blk_cell BK146.out 3).trans rfl
     have hcz14_4 : w3.cell? ⟨gb146,4,none⟩ = some (.int .i64 a0_4):=(blk_cell BK146.out 4).trans rfl
     have hcz14_5 : w3.cell? ⟨gb146,5,none⟩ = some (.slice A0_5 l0_5.length c0_5):=(blk_cell BK146.out 5).trans rfl
     have hfz14_0:=blk_frozen BK146.out 0
     have hfz14_1:=blk_frozen BK146.out 1
     have hfz14_2:=blk_frozen BK146.out 2
     have hfz14_3:=blk_frozen BK146.out 3
     have hfz14_4:=blk_frozen BK146.out 4
     have hfz14_5:=blk_frozen BK146.out 5
     go_wp2_with (first|((with_reducible refine gate_callee (f:=84) rfl ?_);refine goesL_ (some 5) rfl rfl Try.func84 (by kernel_rfl) rfl #[.slice A0_5 l0_5.length c0_5] rfl (by (try simp only [List.map_toArray,List.map_cons,List.map_nil]);first|done|rfl|(simp only [List.length_drop,List.length_take];rfl)) ?_;(with_reducible refine (spec_l5Records.calls k _ _ l0_5 true _ ?side1 ?side2 A4.out).mono ?_);(case side1=>repeat (first|exact (Kd.C_below HR0_5.out HB.out)|(with_reducible refine Kd.C_alloc ?_ _)|(with_reducible refine Kd.C_drewN ?_ _)|(with_reducible refine Kd.C_drew ?_)));(case side2=>exact HC0_5.out);rintro e w15 ⟨rfl,hb⟩;refine ⟨_,rfl,?_⟩;have n0_:=Aside0.mk (blk_below (g:=gb146) (o:=.cells #[.bool a0_0,.bool a0_1,.int .i64 a0_2,.int .i64 a0_3,.int .i64 a0_4,.slice A0_5 l0_5.length c0_5] 39 (0,0)) (by (with_reducible repeat (first|refine blk_drewN ?_ _|refine blk_drew ?_|refine blk_alloc ?_ _));exact BK146.out) hb);have n1_:=Aside0.mk (below_step (by repeat (first|(with_reducible first|exact HB.out|apply below_alloc|apply pw_below_drewN|apply below_drew1|refine below_set ?_ GE146.out)|exact HB.out)) hb);clear BK146;clear HB;have BK146:=n0_;have HB:=n1_;clear n0_ n1_;(try clear hb);(try clear hb2);(try clear hk);(try clear hi);have hcz16_0 : w15.cell? ⟨gb146,0,none⟩ = some (.bool a0_0):=(blk_cell BK146.out 0).trans rfl;have hcz16_1 : w15.cell? ⟨gb146,1,none⟩ = some (.bool a0_1):=(blk_cell BK146.out 1).trans rfl;have hcz16_2 : w15.cell? ⟨gb146,2,none⟩ = some (.int .i64 a0_2):=(blk_cell BK146.out 2).trans rfl;have hcz16_3 : w15.cell? ⟨gb146,3,none⟩ = some (.int .i64 a0_3):=(blk_cell BK146.out 3).trans rfl;have hcz16_4 : w15.cell? ⟨gb146,4,none⟩ = some (.int .i64 a0_4):=(blk_cell BK146.out 4).trans rfl;have hcz16_5 : w15.cell? ⟨gb146,5,none⟩ = some (.slice A0_5 l0_5.length c0_5):=(blk_cell BK146.out 5).trans rfl;have hfz16_0:=blk_frozen BK146.out 0;have hfz16_1:=blk_frozen BK146.out 1;have hfz16_2:=blk_frozen BK146.out 2;have hfz16_3:=blk_frozen BK146.out 3;have hfz16_4:=blk_frozen BK146.out 4;have hfz16_5:=blk_frozen BK146.out 5)|(go_at_call 80;(with_reducible refine (spec_l6In.calls a0_2 0 255 true _ A6.out).mono ?_);rintro e w' ⟨rfl,⟨nd,rfl⟩⟩)|(go_at_call 80;(with_reducible refine (spec_l6In.calls a0_3 0 99 false _ A8.out).mono ?_);rintro e w' ⟨rfl,⟨nd,rfl⟩⟩))
     go_meet
     case rel=>exact ⟨_,(true),(by first|rfl|(simp;done)|(simp [*];done)),H',⟨by first|omega|exact Nat.le_refl _⟩,⟨by (with_reducible repeat (first|refine blk_drewN ?_ _|refine blk_drew ?_|refine blk_alloc ?_ _));exact BK146.out⟩,⟨by repeat (first|(with_reducible first|exact HB.out|apply below_alloc|apply pw_below_drewN|apply below_drew1|refine below_set ?_ GE146.out)|exact HB.out)⟩⟩
   ·replace c7:=Bool.eq_false_iff.mpr c7
    subst c7
    have H1 : (spec_BatchValid.j0 k true a0_0 a0_1 a0_2 a0_3 a0_4 l0_5)=some r:=by rw [if_neg (show ¬ (false=true) by decide)] at H;exact H
    clear H
    have H:=H1
    clear H1
    have H':=Aside0.mk H
    clear H
    have hcz17_0 : w3.cell? ⟨gb146,0,none⟩ = some (.bool a0_0):=(blk_cell BK146.out 0).trans rfl
    have hcz17_1 : w3.cell? ⟨gb146,1,none⟩ = some (.bool a0_1):=(blk_cell BK146.out 1).trans rfl
    have hcz17_2 : w3.cell? ⟨gb146,2,none⟩ = some (.int .i64 a0_2):=(blk_cell BK146.out 2).trans rfl
    have hcz17_3 : w3.cell? ⟨gb146,3,none⟩ = some (.int .i64 a0_3):=(blk_cell BK146.out 3).trans rfl
    have hcz17_4 : w3.cell? ⟨gb146,4,none⟩ = some (.int .i64 a0_4):=(blk_cell BK146.out 4).trans rfl
    have hcz17_5 : w3.cell? ⟨gb146,5,none⟩ = some (.slice A0_5 l0_5.length c0_5):=(blk_cell BK146.out 5).trans rfl
    have hfz17_0:=blk_frozen BK146.out 0
    have hfz17_1:=blk_frozen BK146.out 1
    have hfz17_2:=blk_frozen BK146.out 2
    have hfz17_3:=blk_frozen BK146.out 3
    have hfz17_4:=blk_frozen BK146.out 4
    have hfz17_5:=blk_frozen BK146.out 5
    go_wp2_with (first|((with_reducible refine gate_callee (f:=84) rfl ?_);refine goesL_ (some 5) rfl rfl Try.func84 (by kernel_rfl) rfl #[.slice A0_5 l0_5.length c0_5] rfl (by (try simp only [List.map_toArray,List.map_cons,List.map_nil]);first|done|rfl|(simp only [List.length_drop,List.length_take];rfl)) ?_;(with_reducible refine (spec_l5Records.calls k _ _ l0_5 true _ ?side1 ?side2 A4.out).mono ?_);(case side1=>repeat (first|exact (Kd.C_below HR0_5.out HB.out)|(with_reducible refine Kd.C_alloc ?_ _)|(with_reducible refine Kd.C_drewN ?_ _)|(with_reducible refine Kd.C_drew ?_)));(case side2=>exact HC0_5.out);rintro e w18 ⟨rfl,hb⟩;refine ⟨_,rfl,?_⟩;have n0_:=Aside0.mk (blk_below (g:=gb146) (o:=.cells #[.bool a0_0,.bool a0_1,.int .i64 a0_2,.int .i64 a0_3,.int .i64 a0_4,.slice A0_5 l0_5.length c0_5] 39 (0,0)) (by (with_reducible repeat (first|refine blk_drewN ?_ _|refine blk_drew ?_|refine blk_alloc ?_ _));exact BK146.out) hb);have n1_:=Aside0.mk (below_step (by repeat (first|(with_reducible first|exact HB.out|apply below_alloc|apply pw_below_drewN|apply below_drew1|refine below_set ?_ GE146.out)|exact HB.out)) hb);clear BK146;clear HB;have BK146:=n0_;have HB:=n1_;clear n0_ n1_;(try clear hb);(try clear hb2);(try clear hk);(try clear hi);have hcz19_0 : w18.cell? ⟨gb146,0,none⟩ = some (.bool a0_0):=(blk_cell BK146.out 0).trans rfl;have hcz19_1 : w18.cell? ⟨gb146,1,none⟩ = some (.bool a0_1):=(blk_cell BK146.out 1).trans rfl;have hcz19_2 : w18.cell? ⟨gb146,2,none⟩ = some (.int .i64 a0_2):=(blk_cell BK146.out 2).trans rfl;have hcz19_3 : w18.cell? ⟨gb146,3,none⟩ = some (.int .i64 a0_3):=(blk_cell BK146.out 3).trans rfl;have hcz19_4 : w18.cell? ⟨gb146,4,none⟩ = some (.int .i64 a0_4):=(blk_cell BK146.out 4).trans rfl;have hcz19_5 : w18.cell? ⟨gb146,5,none⟩ = some (.slice A0_5 l0_5.length c0_5):=(blk_cell BK146.out 5).trans rfl;have hfz19_0:=blk_frozen BK146.out 0;have hfz19_1:=blk_frozen BK146.out 1;have hfz19_2:=blk_frozen BK146.out 2;have hfz19_3:=blk_frozen BK146.out 3;have hfz19_4:=blk_frozen BK146.out 4;have hfz19_5:=blk_frozen BK146.out 5)|(go_at_call 80;(with_reducible refine (spec_l6In.calls a0_2 0 255 false _ A6.out).mono ?_);rintro e w' ⟨rfl,⟨nd,rfl⟩⟩))
    go_meet
    case rel=>exact ⟨_,(true),(by first|rfl|(simp;done)|(simp [*];done)),H',⟨by first|omega|exact Nat.le_refl _⟩,⟨by (with_reducible repeat (first|refine blk_drewN ?_ _|refine blk_drew ?_|refine blk_alloc ?_ _));exact BK146.out⟩,⟨by repeat (first|(with_reducible first|exact HB.out|apply below_alloc|apply pw_below_drewN|apply below_drew1|refine below_set ?_ GE146.out)|exact HB.out)⟩⟩
  ·replace c5:=Bool.eq_false_iff.mpr c5
   subst c5
   have H1 : (spec_BatchValid.j0 k true a0_0 a0_1 a0_2 a0_3 a0_4 l0_5)=some r:=by rw [if_neg (show ¬ (false=true) by decide)] at H;exact H
   clear H
   have H:=H1
   clear H1
   have H':=Aside0.mk H
   clear H
   have hcz20_0 : w3.cell? ⟨gb146,0,none⟩ = some (.bool a0_0):=(blk_cell BK146.out 0).trans rfl
   have hcz20_1 : w3.cell? ⟨gb146,1,none⟩ = some (.bool a0_1):=(blk_cell BK146.out 1).trans rfl
   have hcz20_2 : w3.cell? ⟨gb146,2,none⟩ = some (.int .i64 a0_2):=(blk_cell BK146.out 2).trans rfl
   have hcz20_3 : w3.cell? ⟨gb146,3,none⟩ = some (.int .i64 a0_3):=(blk_cell BK146.out 3).trans rfl
   have hcz20_4 : w3.cell? ⟨gb146,4,none⟩ = some (.int .i64 a0_4):=(blk_cell BK146.out 4).trans rfl
   have hcz20_5 : w3.cell? ⟨gb146,5,none⟩ = some (.slice A0_5 l0_5.length c0_5):=(blk_cell BK146.out 5).trans rfl
   have hfz20_0:=blk_frozen BK146.out 0
   have hfz20_1:=blk_frozen BK146.out 1
   have hfz20_2:=blk_frozen BK146.out 2
   have hfz20_3:=blk_frozen BK146.out 3
   have hfz20_4:=blk_frozen BK146.out 4
   have hfz20_5:=blk_frozen BK146.out 5
   go_wp2_with (first|((with_reducible refine gate_callee (f:=84) rfl ?_);refine goesL_ (some 5) rfl rfl Try.func84 (by kernel_rfl) rfl #[.slice A0_5 l0_5.length c0_5] rfl (by (try simp only [List.map_toArray,List.map_cons,List.map_nil]);first|done|rfl|(simp only [List.length_drop,List.length_take];rfl)) ?_;(with_reducible refine (spec_l5Records.calls k _ _ l0_5 false _ ?side1 ?side2 A4.out).mono ?_);(case side1=>repeat (first|exact (Kd.C_below HR0_5.out HB.out)|(with_reducible refine Kd.C_alloc ?_ _)|(with_reducible refine Kd.C_drewN ?_ _)|(with_reducible refine Kd.C_drew ?_)));(case side2=>exact HC0_5.out);rintro e w21 ⟨rfl,hb⟩;refine ⟨_,rfl,?_⟩;have n0_:=Aside0.mk (blk_below (g:=gb146) (o:=.cells #[.bool a0_0,.bool a0_1,.int .i64 a0_2,.int .i64 a0_3,.int .i64 a0_4,.slice A0_5 l0_5.length c0_5] 39 (0,0)) (by (with_reducible repeat (first|refine blk_drewN ?_ _|refine blk_drew ?_|refine blk_alloc ?_ _));exact BK146.out) hb);have n1_:=Aside0.mk (below_step (by repeat (first|(with_reducible first|exact HB.out|apply below_alloc|apply pw_below_drewN|apply below_drew1|refine below_set ?_ GE146.out)|exact HB.out)) hb);clear BK146;clear HB;have BK146:=n0_;have HB:=n1_;clear n0_ n1_;(try clear hb);(try clear hb2);(try clear hk);(try clear hi)))
   go_meet
   case rel=>exact ⟨_,(true),(by first|rfl|(simp;done)|(simp [*];done)),H',⟨by first|omega|exact Nat.le_refl _⟩,⟨by (with_reducible repeat (first|refine blk_drewN ?_ _|refine blk_drew ?_|refine blk_alloc ?_ _));exact BK146.out⟩,⟨by repeat (first|(with_reducible first|exact HB.out|apply below_alloc|apply pw_below_drewN|apply below_drew1|refine below_set ?_ GE146.out)|exact HB.out)⟩⟩
 case rest =>
  clear HC2
  try clear p2
  try clear c5
  try clear c6
  try clear c7
  try clear c8
  try clear c9
  try clear hcz11_0
  try clear hcz11_1
  try clear hcz11_2
  try clear hcz11_3
  try clear hcz11_4
  try clear hcz11_5
  try clear hcz13_0
  try clear hcz13_1
  try clear hcz13_2
  try clear hcz13_3
  try clear hcz13_4
  try clear hcz13_5
  try clear hcz14_0
  try clear hcz14_1
  try clear hcz14_2
  try clear hcz14_3
  try clear hcz14_4
  try clear hcz14_5
  try clear hcz16_0
  try clear hcz16_1
  try clear hcz16_2
  try clear hcz16_3
  try clear hcz16_4
  try clear hcz16_5
  try clear hcz17_0
  try clear hcz17_1
  try clear hcz17_2
  try clear hcz17_3
  try clear hcz17_4
  try clear hcz17_5
  try clear hcz19_0
  try clear hcz19_1
  try clear hcz19_2
  try clear hcz19_3
  try clear hcz19_4
  try clear hcz19_5
  try clear hcz20_0
  try clear hcz20_1
  try clear hcz20_2
  try clear hcz20_3
  try clear hcz20_4
  try clear hcz20_5
  try clear hfz11_0
  try clear hfz11_1
  try clear hfz11_2
  try clear hfz11_3
  try clear hfz11_4
  try clear hfz11_5
  try clear hfz13_0
  try clear hfz13_1
  try clear hfz13_2
  try clear hfz13_3
  try clear hfz13_4
  try clear hfz13_5
  try clear hfz14_0
  try clear hfz14_1
  try clear hfz14_2
  try clear hfz14_3
  try clear hfz14_4
  try clear hfz14_5
  try clear hfz16_0
  try clear hfz16_1
  try clear hfz16_2
  try clear hfz16_3
  try clear hfz16_4
  try clear hfz16_5
  try clear hfz17_0
  try clear hfz17_1
  try clear hfz17_2
  try clear hfz17_3
  try clear hfz17_4
  try clear hfz17_5
  try clear hfz19_0
  try clear hfz19_1
  try clear hfz19_2
  try clear hfz19_3
  try clear hfz19_4
  try clear hfz19_5
  try clear hfz20_0
  try clear hfz20_1
  try clear hfz20_2
  try clear hfz20_3
  try clear hfz20_4
  try clear hfz20_5
  obtain ⟨kq,x24_1,rfl,HA,HJ1,BK146,HB⟩:=hcut
  cases kq with
  | zero=>exact absurd HA.out (by simp [spec_BatchValid.j0])
  | succ kj1 =>
   have H:=HA.out
   clear HA
   simp only [spec_BatchValid.j0] at H
   by_cases c22 : x24_1=true
   ·subst c22
    have H1 : (some false)=some r:=by rw [if_pos rfl] at H;exact H
    clear H
    have H:=H1
    clear H1
    obtain rfl:=Option.some.inj H
    go_wp2
    go_ret
    exact ⟨by first|rfl|(simp [errW_none,errW_some] <;> rfl)|(simp [*,errW_none,errW_some] <;> rfl),by repeat (first|(with_reducible first|exact HB.out|apply below_alloc|apply pw_below_drewN|apply below_drew1|refine below_set ?_ GE146.out)|exact HB.out)⟩
   ·replace c22:=Bool.eq_false_iff.mpr c22
    subst c22
    have H1 : (if a0_2=255 then (if a0_3=0 then (if a0_4=0 then (some (!a0_1)) else (some false)) else (some false)) else (if a0_1=true then (some ((l0_5.length : Int) == 1)) else (some true)))=some r:=by rw [if_neg (show ¬ (false=true) by decide)] at H;exact H
    clear H
    have H:=H1
    clear H1
    by_cases c23 : a0_2=255
    ·rw [if_pos c23] at H
     have c23b0 : (a0_2 == 255)=true:=beq_iff_eq.mpr c23
     have c23b1 : (a0_2 != 255)=false:=bne_eq_false_iff_eq.mpr c23
     clear c23
     by_cases c24 : a0_3=0
     ·rw [if_pos c24] at H
      have c24b0 : (a0_3 == 0)=true:=beq_iff_eq.mpr c24
      have c24b1 : (a0_3 != 0)=false:=bne_eq_false_iff_eq.mpr c24
      clear c24
      by_cases c25 : a0_4=0
      ·rw [if_pos c25] at H
       have c25b0 : (a0_4 == 0)=true:=beq_iff_eq.mpr c25
       have c25b1 : (a0_4 != 0)=false:=bne_eq_false_iff_eq.mpr c25
       clear c25
       obtain rfl:=Option.some.inj H
       have hcz26_0 : wc.cell? ⟨gb146,0,none⟩ = some (.bool a0_0):=(blk_cell BK146.out 0).trans rfl
       have hcz26_1 : wc.cell? ⟨gb146,1,none⟩ = some (.bool a0_1):=(blk_cell BK146.out 1).trans rfl
       have hcz26_2 : wc.cell? ⟨gb146,2,none⟩ = some (.int .i64 a0_2):=(blk_cell BK146.out 2).trans rfl
       have hcz26_3 : wc.cell? ⟨gb146,3,none⟩ = some (.int .i64 a0_3):=(blk_cell BK146.out 3).trans rfl
       have hcz26_4 : wc.cell? ⟨gb146,4,none⟩ = some (.int .i64 a0_4):=(blk_cell BK146.out 4).trans rfl
       have hcz26_5 : wc.cell? ⟨gb146,5,none⟩ = some (.slice A0_5 l0_5.length c0_5):=(blk_cell BK146.out 5).trans rfl
       have hfz26_0:=blk_frozen BK146.out 0
       have hfz26_1:=blk_frozen BK146.out 1
       have hfz26_2:=blk_frozen BK146.out 2
       have hfz26_3:=blk_frozen BK146.out 3
       have hfz26_4:=blk_frozen BK146.out 4
       have hfz26_5:=blk_frozen BK146.out 5
       go_wp2
       go_ret
       exact ⟨by first|rfl|(simp [errW_none,errW_some] <;> rfl)|(simp [*,errW_none,errW_some] <;> rfl),by repeat (first|(with_reducible first|exact HB.out|apply below_alloc|apply pw_below_drewN|apply below_drew1|refine below_set ?_ GE146.out)|exact HB.out)⟩
      ·rw [if_neg c25] at H
       have c25b0 : (a0_4 == 0)=false:=beq_eq_false_iff_ne.mpr c25
       have c25b1 : (a0_4 != 0)=true:=bne_iff_ne.mpr c25
       obtain rfl:=Option.some.inj H
       have hcz27_0 : wc.cell? ⟨gb146,0,none⟩ = some (.bool a0_0):=(blk_cell BK146.out 0).trans rfl
       have hcz27_1 : wc.cell? ⟨gb146,1,none⟩ = some (.bool a0_1):=(blk_cell BK146.out 1).trans rfl
       have hcz27_2 : wc.cell? ⟨gb146,2,none⟩ = some (.int .i64 a0_2):=(blk_cell BK146.out 2).trans rfl
       have hcz27_3 : wc.cell? ⟨gb146,3,none⟩ = some (.int .i64 a0_3):=(blk_cell BK146.out 3).trans rfl
       have hcz27_4 : wc.cell? ⟨gb146,4,none⟩ = some (.int .i64 a0_4):=(blk_cell BK146.out 4).trans rfl
       have hcz27_5 : wc.cell? ⟨gb146,5,none⟩ = some (.slice A0_5 l0_5.length c0_5):=(blk_cell BK146.out 5).trans rfl
       have hfz27_0:=blk_frozen BK146.out 0
       have hfz27_1:=blk_frozen BK146.out 1
       have hfz27_2:=blk_frozen BK146.out 2
       have hfz27_3:=blk_frozen BK146.out 3
       have hfz27_4:=blk_frozen BK146.out 4
       have hfz27_5:=blk_frozen BK146.out 5
       go_wp2
       go_ret
       exact ⟨by first|rfl|(simp [errW_none,errW_some] <;> rfl)|(simp [*,errW_none,errW_some] <;> rfl),by repeat (first|(with_reducible first|exact HB.out|apply below_alloc|apply pw_below_drewN|apply below_drew1|refine below_set ?_ GE146.out)|exact HB.out)⟩
     ·rw [if_neg c24] at H
      have c24b0 : (a0_3 == 0)=false:=beq_eq_false_iff_ne.mpr c24
      have c24b1 : (a0_3 != 0)=true:=bne_iff_ne.mpr c24
      obtain rfl:=Option.some.inj H
      have hcz28_0 : wc.cell? ⟨gb146,0,none⟩ = some (.bool a0_0):=(blk_cell BK146.out 0).trans rfl
      have hcz28_1 : wc.cell? ⟨gb146,1,none⟩ = some (.bool a0_1):=(blk_cell BK146.out 1).trans rfl
      have hcz28_2 : wc.cell? ⟨gb146,2,none⟩ = some (.int .i64 a0_2):=(blk_cell BK146.out 2).trans rfl
      have hcz28_3 : wc.cell? ⟨gb146,3,none⟩ = some (.int .i64 a0_3):=(blk_cell BK146.out 3).trans rfl
      have hcz28_4 : wc.cell? ⟨gb146,4,none⟩ = some (.int .i64 a0_4):=(blk_cell BK146.out 4).trans rfl
      have hcz28_5 : wc.cell? ⟨gb146,5,none⟩ = some (.slice A0_5 l0_5.length c0_5):=(blk_cell BK146.out 5).trans rfl
      have hfz28_0:=blk_frozen BK146.out 0
      have hfz28_1:=blk_frozen BK146.out 1
      have hfz28_2:=blk_frozen BK146.out 2
      have hfz28_3:=blk_frozen BK146.out 3
      have hfz28_4:=blk_frozen BK146.out 4
      have hfz28_5:=blk_frozen BK146.out 5
      go_wp2
      go_ret
      exact ⟨by first|rfl|(simp [errW_none,errW_some] <;> rfl)|(simp [*,errW_none,errW_some] <;> rfl),by repeat (first|(with_reducible first|exact HB.out|apply below_alloc|apply pw_below_drewN|apply below_drew1|refine below_set ?_ GE146.out)|exact HB.out)⟩
    ·rw [if_neg c23] at H
     have c23b0 : (a0_2 == 255)=false:=beq_eq_false_iff_ne.mpr c23
     have c23b1 : (a0_2 != 255)=true:=bne_iff_ne.mpr c23
     by_cases c29 : a0_1=true
     ·subst c29
      have H1 : (some ((l0_5.length : Int) == 1))=some r:=by rw [if_pos rfl] at H;exact H
      clear H
      have H:=H1
      clear H1
      obtain rfl:=Option.some.inj H
      have hcz30_0 : wc.cell? ⟨gb146,0,none⟩ = some (.bool a0_0):=(blk_cell BK146.out 0).trans rfl
      have hcz30_1 : wc.cell? ⟨gb146,1,none⟩ = some (.bool true):=(blk_cell BK146.out 1).trans rfl
      have hcz30_2 : wc.cell? ⟨gb146,2,none⟩ = some (.int .i64 a0_2):=(blk_cell BK146.out 2).trans rfl
      have hcz30_3 : wc.cell? ⟨gb146,3,none⟩ = some (.int .i64 a0_3):=(blk_cell BK146.out 3).trans rfl
      have hcz30_4 : wc.cell? ⟨gb146,4,none⟩ = some (.int .i64 a0_4):=(blk_cell BK146.out 4).trans rfl
      have hcz30_5 : wc.cell? ⟨gb146,5,none⟩ = some (.slice A0_5 l0_5.length c0_5):=(blk_cell BK146.out 5).trans rfl
      have hfz30_0:=blk_frozen BK146.out 0
      have hfz30_1:=blk_frozen BK146.out 1
      have hfz30_2:=blk_frozen BK146.out 2
      have hfz30_3:=blk_frozen BK146.out 3
      have hfz30_4:=blk_frozen BK146.out 4
      have hfz30_5:=blk_frozen BK146.out 5
      go_wp2
      go_ret
      exact ⟨by first|rfl|(simp [errW_none,errW_some] <;> rfl)|(simp [*,errW_none,errW_some] <;> rfl),by repeat (first|(with_reducible first|exact HB.out|apply below_alloc|apply pw_below_drewN|apply below_drew1|refine below_set ?_ GE146.out)|exact HB.out)⟩
     ·replace c29:=Bool.eq_false_iff.mpr c29
      subst c29
      have H1 : (some true)=some r:=by rw [if_neg (show ¬ (false=true) by decide)] at H;exact H
      clear H
      have H:=H1
      clear H1
      obtain rfl:=Option.some.inj H
      have hcz31_0 : wc.cell? ⟨gb146,0,none⟩ = some (.bool a0_0):=(blk_cell BK146.out 0).trans rfl
      have hcz31_1 : wc.cell? ⟨gb146,1,none⟩ = some (.bool false):=(blk_cell BK146.out 1).trans rfl
      have hcz31_2 : wc.cell? ⟨gb146,2,none⟩ = some (.int .i64 a0_2):=(blk_cell BK146.out 2).trans rfl
      have hcz31_3 : wc.cell? ⟨gb146,3,none⟩ = some (.int .i64 a0_3):=(blk_cell BK146.out 3).trans rfl
      have hcz31_4 : wc.cell? ⟨gb146,4,none⟩ = some (.int .i64 a0_4):=(blk_cell BK146.out 4).trans rfl
      have hcz31_5 : wc.cell? ⟨gb146,5,none⟩ = some (.slice A0_5 l0_5.length c0_5):=(blk_cell BK146.out 5).trans rfl
      have hfz31_0:=blk_frozen BK146.out 0
      have hfz31_1:=blk_frozen BK146.out 1
      have hfz31_2:=blk_frozen BK146.out 2
      have hfz31_3:=blk_frozen BK146.out 3
      have hfz31_4:=blk_frozen BK146.out 4
      have hfz31_5:=blk_frozen BK146.out 5
      go_wp2
      go_ret
      exact ⟨by first|rfl|(simp [errW_none,errW_some] <;> rfl)|(simp [*,errW_none,errW_some] <;> rfl),by repeat (first|(with_reducible first|exact HB.out|apply below_alloc|apply pw_below_drewN|apply below_drew1|refine below_set ?_ GE146.out)|exact HB.out)⟩

/-! ### spec_OldTurn: function 23 -/
def spec_OldTurn.l0 : Nat→List (S26)→Int→Bool→Bool→Int→Int→Int→List (S57)→Option (Bool × Bool × Int × Int × Int × (List (S57)) × Bool)
 | 0,_,_,_,_,_,_,_,_=>none
 | k + 1,x0,x7,x153000,x153001,x153002,x153003,x153004,x153005=>if x7 < (x0.length : Int) then (if 0 ≤ x7 then ((spec_OldValid.f k ((rd_T26 x0 x7).f0) ((rd_T26 x0 x7).f1) ((rd_T26 x0 x7).f2) ((rd_T26 x0 x7).f3) ((rd_T26 x0 x7).f4) ((rd_T26 x0 x7).f5) ((rd_T26 x0 x7).f6)).bind fun t155=>(if t155=true then (if (x0.length : Int) > 6 then (some (false,false,0,0,0,([] : List (S57)),false)) else ((spec_l11Record.f ((rd_T26 x0 x7).f0) ((rd_T26 x0 x7).f1) ((rd_T26 x0 x7).f2) ((rd_T26 x0 x7).f3) ((rd_T26 x0 x7).f4) ((rd_T26 x0 x7).f5) ((rd_T26 x0 x7).f6)).bind fun bt157=>(if x153005.length < 1759218604441 then (spec_OldTurn.l0 k x0 (wrap64 (x7 + 1)) x153000 x153001 x153002 x153003 x153004 (x153005 ++ [(⟨bt157.1,bt157.2.1,bt157.2.2.1,bt157.2.2.2.1,bt157.2.2.2.2.1,bt157.2.2.2.2.2⟩ : S57)])) else (none)))) else (some (false,false,0,0,0,([] : List (S57)),false)))) else (none)) else ((spec_BatchValid.f k x153000 x153001 x153002 x153003 x153004 x153005).bind fun t153=>(if t153=true then (some (x153000,x153001,x153002,x153003,x153004,x153005,true)) else (some (false,false,0,0,0,([] : List (S57)),false))))
def spec_OldTurn.f (k : Nat) (l0 : List (S26)) (a1 : Bool) : Option (Bool × Bool × Int × Int × Int × (List (S57)) × Bool):=spec_OldTurn.l0 k l0 0 a1 false 255 0 0 ([] : List (S57))
theorem spec_OldTurn.mono_l : ∀ k,(∀ y0 y1 y2 y3 y4 y5 y6 y7,LeO (spec_OldTurn.l0 k y0 y1 y2 y3 y4 y5 y6 y7) (spec_OldTurn.l0 (k + 1) y0 y1 y2 y3 y4 y5 y6 y7))
 | 0=>fun _ _ _ _ _ _ _ _ r h=>by simp [spec_OldTurn.l0] at h
 | k + 1=>by
  have ih0:=spec_OldTurn.mono_l k
  ·intro y0 y1 y2 y3 y4 y5 y6 y7
   unfold spec_OldTurn.l0
   repeat' first
   | (with_reducible exact ih0 _ _ _ _ _ _ _ _)
   | (with_reducible exact spec_BatchValid.mono _ _ _ _ _ _ _)
   | (with_reducible exact spec_OldValid.mono _ _ _ _ _ _ _ _)
   | (with_reducible exact LeO.refl _)
   | (with_reducible exact LeO.none _)
   | (with_reducible refine LeO.ite ?_ ?_)
   | (with_reducible refine LeO.bind ?_ (fun _=>?_))
   | exact ih0 _ _ _ _ _ _ _ _
   | exact spec_BatchValid.mono _ _ _ _ _ _ _
   | exact spec_OldValid.mono _ _ _ _ _ _ _ _
   | exact LeO.none _
   | refine LeO.ite ?_ ?_
   | refine LeO.bind ?_ (fun _=>?_)
theorem spec_OldTurn.mono : ∀ a0 a1 k,LeO (spec_OldTurn.f k a0 a1) (spec_OldTurn.f (k + 1) a0 a1):=by
 intro a0 a1 k
 have ih0:=spec_OldTurn.mono_l k
 unfold spec_OldTurn.f
 repeat' first
   | (with_reducible exact ih0 _ _ _ _ _ _ _ _)
   | (with_reducible exact spec_BatchValid.mono _ _ _ _ _ _ _)
   | (with_reducible exact spec_OldValid.mono _ _ _ _ _ _ _ _)
   | (with_reducible exact LeO.refl _)
   | (with_reducible exact LeO.none _)
   | (with_reducible refine LeO.ite ?_ ?_)
   | (with_reducible refine LeO.bind ?_ (fun _=>?_))
   | exact ih0 _ _ _ _ _ _ _ _
   | exact spec_BatchValid.mono _ _ _ _ _ _ _
   | exact spec_OldValid.mono _ _ _ _ _ _ _ _
   | exact LeO.none _
   | refine LeO.ite ?_ ?_
   | refine LeO.bind ?_ (fun _=>?_)
def spec_OldTurn.T7 : Bool × List (List Nat × List Nat):=(true,[([],[]),([0],[0]),([],[]),([],[]),([2,3],[2,3]),([4],[4]),([5],[5]),([6],[6]),([1,7,6],[1,7]),([0,1,2,3,4,5,6,7,8],[]),([9,8,8,0,1,2,3,4,5,6,7,8],[8,9])])
def spec_OldTurn.B7 : List Nat:=[0,1,0,0,12,28,60,124,255,511,1023]
theorem spec_OldTurn.tab7 : rtab .any (opsOf Try.f23 7)=spec_OldTurn.T7:=by kernel_rfl
theorem spec_OldTurn.bits7 : waitsOk spec_OldTurn.T7.2 spec_OldTurn.B7=true:=by kernel_rfl
set_option maxHeartbeats 8000000 in
set_option maxRecDepth 100000 in
theorem spec_OldTurn.calls (k : Nat) (A0 : Option Addr) (c0 : Nat) (l0 : List (S26)) (a1 : Bool) (r1 : Bool) (r2 : Bool) (r3 : Int) (r4 : Int) (r5 : Int) (r6 : List (S57)) (r7 : Bool) (w : World) (hr0 : Kd.C k26 w A0 l0.length l0) (hc0 : l0.length ≤ c0) (h : spec_OldTurn.f k l0 a1=some (r1,r2,r3,r4,r5,r6,r7)) :
  Calls Try.prog 23 #[.slice A0 l0.length c0,.bool a1] w fun e w'=>∃ v5_ : Value,e = .returned (.tuple #[.agg #[.bool r1,.bool r2,.int .i64 r3,.int .i64 r4,.int .i64 r5,v5_],.bool r7])∧Kd.S k57 57 w' w.heap.size (fun _=>True) v5_ r6∧Below w.heap.size w w':=by
 have hu39:=Try.underlying39
 have hu26:=Try.underlying26
 have HR0:=Aside0.mk hr0
 have HC0:=Aside0.mk hc0
 clear hr0 hc0
 have HB:=Aside0.mk (Below.refl w.heap.size w)
 have H : (spec_OldTurn.l0 k l0 0 a1 false 255 0 0 ([] : List (S57)))=some (r1,r2,r3,r4,r5,r6,r7):=h
 clear h
 have H':=Aside0.mk H
 clear H
 go_enter Try.func23,Try.ntmps23
 go_wp2_with (first|((with_reducible refine gate_dst (N:=4) rfl ?_);(try (refine gate_guard (by rfl) ?_;dsimp only));refine box_event ?hg (N:=4) ?hd (cs:=#[.bool false,.bool false,.int .i64 0,.int .i64 0,.int .i64 0,.slice none 0 0]) (t:=39) ?hr ?_;(case hd=>rfl);(case hg=>rfl);(case hr=>first|(go_simp;done)|(go_simp;rfl));intro gb151 hg w3 hbox hb;have n0_:=Aside0.mk (below_step (by repeat (first|(with_reducible first|exact HB.out|apply below_alloc|apply pw_below_drewN|apply below_drew1)|exact HB.out)) hb);have n1_:=Aside0.mk (hbox);have n2_:=Aside0.mk ((by rw [hg];exact (below_size (by repeat (first|(with_reducible first|exact HB.out|apply below_alloc|apply pw_below_drewN|apply below_drew1)|exact HB.out))) : w.heap.size ≤ gb151));have n3_:=Aside0.mk ((by rw [hg];exact (below_size (by repeat (first|(with_reducible first|exact HB.out|apply below_alloc|apply pw_below_drewN|apply below_drew1)|exact HB.out))) : w.heap.size ≤ gb151));clear HB;have HB:=n0_;have BK151:=n1_;have GW151:=n2_;have GE151:=n3_;clear n0_ n1_ n2_ n3_;clear hb hbox hg)|((with_reducible refine gate_dst (N:=6) rfl ?_);(try (refine gate_guard (by rfl) ?_;dsimp only));refine box_event ?hg (N:=6) ?hd (cs:=#[.bool false,.bool false,.int .i64 0,.int .i64 0,.int .i64 0,.slice none 0 0]) (t:=39) ?hr ?_;(case hd=>rfl);(case hg=>rfl);(case hr=>first|(go_simp;done)|(go_simp;rfl));intro gb152 hg w4 hbox hb;have n0_:=Aside0.mk (blk_below (g:=gb151) (o:=.cells #[.bool false,.bool false,.int .i64 0,.int .i64 0,.int .i64 0,.slice none 0 0] 39 (0,0)) (by (with_reducible repeat (first|refine blk_drewN ?_ _|refine blk_drew ?_|refine blk_alloc ?_ _));exact BK151.out) hb);have n1_:=Aside0.mk (below_step (by repeat (first|(with_reducible first|exact HB.out|apply below_alloc|apply pw_below_drewN|apply below_drew1|refine below_set ?_ GE151.out)|exact HB.out)) hb);have n2_:=Aside0.mk (hbox);have n3_:=Aside0.mk ((by rw [hg];exact (below_size (by repeat (first|(with_reducible first|exact HB.out|apply below_alloc|apply pw_below_drewN|apply below_drew1|refine below_set ?_ GE151.out)|exact HB.out))) : w.heap.size ≤ gb152));have n4_:=Aside0.mk ((by rw [hg];exact (below_size (by repeat (first|(with_reducible first|exact HB.out|apply below_alloc|apply pw_below_drewN|apply below_drew1|refine below_set ?_ GE151.out)|exact HB.out))) : w.heap.size ≤ gb152));have n5_:=Aside0.mk ((by rw [hg];exact Nat.ne_of_lt (blk_lt (g:=gb151) (o:=.cells #[.bool false,.bool false,.int .i64 0,.int .i64 0,.int .i64 0,.slice none 0 0] 39 (0,0)) (by (with_reducible repeat (first|refine blk_drewN ?_ _|refine blk_drew ?_|refine blk_alloc ?_ _));exact BK151.out)) : gb151 ≠ gb152));have n6_:=Aside0.mk ((by rw [hg];exact Nat.ne_of_gt (blk_lt (g:=gb151) (o:=.cells #[.bool false,.bool false,.int .i64 0,.int .i64 0,.int .i64 0,.slice none 0 0] 39 (0,0)) (by (with_reducible repeat (first|refine blk_drewN ?_ _|refine blk_drew ?_|refine blk_alloc ?_ _));exact BK151.out)) : gb152 ≠ gb151));clear BK151;clear HB;have BK151:=n0_;have HB:=n1_;have BK152:=n2_;have GW152:=n3_;have GE152:=n4_;have NB151_152:=n5_;have NB152_151:=n6_;clear n0_ n1_ n2_ n3_ n4_ n5_ n6_;clear hb hbox hg;have hnb5:=NB152_151.out;have hnc5:=NB151_152.out;have hcz6_0 : w4.cell? ⟨gb152,0,none⟩ = some (.bool false):=(blk_cell BK152.out 0).trans rfl;have hcz6_1 : w4.cell? ⟨gb152,1,none⟩ = some (.bool false):=(blk_cell BK152.out 1).trans rfl;have hcz6_2 : w4.cell? ⟨gb152,2,none⟩ = some (.int .i64 0):=(blk_cell BK152.out 2).trans rfl;have hcz6_3 : w4.cell? ⟨gb152,3,none⟩ = some (.int .i64 0):=(blk_cell BK152.out 3).trans rfl;have hcz6_4 : w4.cell? ⟨gb152,4,none⟩ = some (.int .i64 0):=(blk_cell BK152.out 4).trans rfl;have hcz6_5 : w4.cell? ⟨gb152,5,none⟩ = some (.slice none 0 0):=(blk_cell BK152.out 5).trans rfl;have hfz6_0:=blk_frozen BK152.out 0;have hfz6_1:=blk_frozen BK152.out 1;have hfz6_2:=blk_frozen BK152.out 2;have hfz6_3:=blk_frozen BK152.out 3;have hfz6_4:=blk_frozen BK152.out 4;have hfz6_5:=blk_frozen BK152.out 5))
 go_loopg [7] k (fun kq v7 w'=>∃ (x7_1 : Int) (x152000_1 : Bool) (x152001_1 : Bool) (x152002_1 : Int) (x152003_1 : Int) (x152004_1 : Int) (x153005_1 : List (S57)) (u153005 : Value),v7 = .int .i64 x7_1∧Aside0 (spec_OldTurn.l0 kq l0 x7_1 a1 false 255 0 0 x153005_1=some (r1,r2,r3,r4,r5,r6,r7))∧Aside0 (kq ≤ k)∧Aside0 (Kd.S k57 57 w' w.heap.size (fun _=>True) u153005 x153005_1)∧Aside0 (w'.heap[gb151]? = some (.cells #[.bool x152000_1,.bool x152001_1,.int .i64 x152002_1,.int .i64 x152003_1,.int .i64 x152004_1,(.slice none 0 0)] 39 (0,0)))∧Aside0 (w'.heap[gb152]? = some (.cells #[.bool a1,.bool false,.int .i64 255,.int .i64 0,.int .i64 0,u153005] 39 (0,0)))∧Aside0 (Below w.heap.size w w'))
 case atStart=>exact ⟨(0),(false),(false),(0),(0),(0),(([] : List (S57))),(.slice none 0 0),(by first|rfl|(simp;done)|(simp [*];done)),H',⟨Nat.le_refl _⟩,⟨by first|exact Kd.S_nil _ _ _ _ _|exact Kd.N_nil _ _ _ _ _|exact Kd.V_nil _ _ _ _ _|exact Kd.Q_nil _ _ _ _ _|exact Kd.R_nil _ _ _ _ _⟩,⟨by (with_reducible repeat (first|refine blk_drewN ?_ _|refine blk_drew ?_|refine blk_alloc ?_ _));refine blk_far ?_ NB151_152.out _;(with_reducible repeat (first|refine blk_drewN ?_ _|refine blk_drew ?_|refine blk_alloc ?_ _));refine blk_far ?_ NB151_152.out _;(with_reducible repeat (first|refine blk_drewN ?_ _|refine blk_drew ?_|refine blk_alloc ?_ _));refine blk_far ?_ NB151_152.out _;(with_reducible repeat (first|refine blk_drewN ?_ _|refine blk_drew ?_|refine blk_alloc ?_ _));refine blk_far ?_ NB151_152.out _;(with_reducible repeat (first|refine blk_drewN ?_ _|refine blk_drew ?_|refine blk_alloc ?_ _));refine blk_far ?_ NB151_152.out _;(with_reducible repeat (first|refine blk_drewN ?_ _|refine blk_drew ?_|refine blk_alloc ?_ _));refine blk_far ?_ NB151_152.out _;(with_reducible repeat (first|refine blk_drewN ?_ _|refine blk_drew ?_|refine blk_alloc ?_ _));exact BK151.out⟩,⟨by (with_reducible repeat (first|refine blk_drewN ?_ _|refine blk_drew ?_|refine blk_alloc ?_ _));refine blk_put (cs:=#[.bool a1,.bool false,.int .i64 255,.int .i64 0,.int .i64 0,.slice none 0 0]) ?_ 5 _ rfl;(with_reducible repeat (first|refine blk_drewN ?_ _|refine blk_drew ?_|refine blk_alloc ?_ _));refine blk_put (cs:=#[.bool a1,.bool false,.int .i64 255,.int .i64 0,.int .i64 0,.slice none 0 0]) ?_ 4 _ rfl;(with_reducible repeat (first|refine blk_drewN ?_ _|refine blk_drew ?_|refine blk_alloc ?_ _));refine blk_put (cs:=#[.bool a1,.bool false,.int .i64 255,.int .i64 0,.int .i64 0,.slice none 0 0]) ?_ 3 _ rfl;(with_reducible repeat (first|refine blk_drewN ?_ _|refine blk_drew ?_|refine blk_alloc ?_ _));refine blk_put (cs:=#[.bool a1,.bool false,.int .i64 0,.int .i64 0,.int .i64 0,.slice none 0 0]) ?_ 2 _ rfl;(with_reducible repeat (first|refine blk_drewN ?_ _|refine blk_drew ?_|refine blk_alloc ?_ _));refine blk_put (cs:=#[.bool a1,.bool false,.int .i64 0,.int .i64 0,.int .i64 0,.slice none 0 0]) ?_ 1 _ rfl;(with_reducible repeat (first|refine blk_drewN ?_ _|refine blk_drew ?_|refine blk_alloc ?_ _));refine blk_put (cs:=#[.bool false,.bool false,.int .i64 0,.int .i64 0,.int .i64 0,.slice none 0 0]) ?_ 0 _ rfl;(with_reducible repeat (first|refine blk_drewN ?_ _|refine blk_drew ?_|refine blk_alloc ?_ _));exact BK152.out⟩,⟨by repeat (first|(with_reducible first|exact HB.out|apply below_alloc|apply pw_below_drewN|apply below_drew1|refine below_set ?_ GE151.out|refine below_set ?_ GE152.out)|exact HB.out)⟩⟩
 case round =>
  clear H'
  try clear c2
  try clear p2
  try clear c5
  try clear hcz6_0
  try clear hcz6_1
  try clear hcz6_2
  try clear hcz6_3
  try clear hcz6_4
  try clear hcz6_5
  try clear hfz6_0
  try clear hfz6_1
  try clear hfz6_2
  try clear hfz6_3
  try clear hfz6_4
  try clear hfz6_5
  obtain ⟨x7_1,x152000_1,x152001_1,x152002_1,x152003_1,x152004_1,x153005_1,u153005,rfl,HA,HK1,HO_153005,BK151,BK152,HB⟩:=hrel
  cases gk with
  | zero=>exact absurd HA.out (by simp [spec_OldTurn.l0])
  | succ k1 =>
   have H:=HA.out
   clear HA
   simp only [spec_OldTurn.l0] at H
   by_cases c7 : x7_1 < (l0.length : Int)
   ·rw [if_pos c7] at H
    have c7b0 : decide (x7_1 < (l0.length : Int))=true:=decide_eq_true c7
    clear c7
    by_cases c8 : 0 ≤ x7_1
    ·rw [if_pos c8] at H
     have c8b0 : decide (0 ≤ x7_1)=true:=decide_eq_true c8
     clear c8
     replace H:=Option.bind_eq_some_iff.mp H
     obtain ⟨t155,A90,H⟩:=H
     replace H : (if t155=true then (if (l0.length : Int) > 6 then (some (false,false,0,0,0,([] : List (S57)),false)) else ((spec_l11Record.f ((rd_T26 l0 x7_1).f0) ((rd_T26 l0 x7_1).f1) ((rd_T26 l0 x7_1).f2) ((rd_T26 l0 x7_1).f3) ((rd_T26 l0 x7_1).f4) ((rd_T26 l0 x7_1).f5) ((rd_T26 l0 x7_1).f6)).bind fun bt157=>(if x153005_1.length < 1759218604441 then (spec_OldTurn.l0 k1 l0 (wrap64 (x7_1 + 1)) a1 false 255 0 0 (x153005_1 ++ [(⟨bt157.1,bt157.2.1,bt157.2.2.1,bt157.2.2.2.1,bt157.2.2.2.2.1,bt157.2.2.2.2.2⟩ : S57)])) else (none)))) else (some (false,false,0,0,0,([] : List (S57)),false)))=some (r1,r2,r3,r4,r5,r6,r7):=H
     have A9:=Aside0.mk A90
     clear A90
     by_cases c10 : t155=true
     ·subst c10
      have H1 : (if (l0.length : Int) > 6 then (some (false,false,0,0,0,([] : List (S57)),false)) else ((spec_l11Record.f ((rd_T26 l0 x7_1).f0) ((rd_T26 l0 x7_1).f1) ((rd_T26 l0 x7_1).f2) ((rd_T26 l0 x7_1).f3) ((rd_T26 l0 x7_1).f4) ((rd_T26 l0 x7_1).f5) ((rd_T26 l0 x7_1).f6)).bind fun bt157=>(if x153005_1.length < 1759218604441 then (spec_OldTurn.l0 k1 l0 (wrap64 (x7_1 + 1)) a1 false 255 0 0 (x153005_1 ++ [(⟨bt157.1,bt157.2.1,bt157.2.2.1,bt157.2.2.2.1,bt157.2.2.2.2.1,bt157.2.2.2.2.2⟩ : S57)])) else (none))))=some (r1,r2,r3,r4,r5,r6,r7):=by rw [if_pos rfl] at H;exact H
      clear H
      have H:=H1
      clear H1
      by_cases c11 : (l0.length : Int) > 6
      ·rw [if_pos c11] at H
       have c11b0 : decide (6 < (l0.length : Int))=true:=decide_eq_true c11
       have c11b1 : decide (6 < l0.length)=true:=decide_eq_true (by omega)
       clear c11
       simp only [Option.some.injEq,Prod.mk.injEq] at H
       obtain ⟨rfl,rfl,rfl,rfl,rfl,rfl,rfl⟩:=H
       have p154 : 0 ≤ (x7_1 : Int):=of_decide_eq_true (by first|(with_reducible assumption)|assumption)
       have q154 : x7_1 < (l0.length : Int):=of_decide_eq_true (by first|(with_reducible assumption)|assumption)
       obtain ⟨ad154,A154_3,c154_3,A154_4,c154_4,e154,hx154_0,hx154_1,hx154_2,hx154_3,hx154_4,hx154_5,hx154_6,hl154_3,hi154_3,hl154_4,hi154_4⟩:=at_T26 HR0.out x7_1 p154 q154
       cases e154
       replace hx154_0:=(HB.out.cell (World.block_lt_of_cell? w _ hx154_0)).trans hx154_0
       replace hx154_1:=(HB.out.cell (World.block_lt_of_cell? w _ hx154_1)).trans hx154_1
       replace hx154_2:=(HB.out.cell (World.block_lt_of_cell? w _ hx154_2)).trans hx154_2
       replace hx154_3:=(HB.out.cell (World.block_lt_of_cell? w _ hx154_3)).trans hx154_3
       replace hx154_4:=(HB.out.cell (World.block_lt_of_cell? w _ hx154_4)).trans hx154_4
       replace hx154_5:=(HB.out.cell (World.block_lt_of_cell? w _ hx154_5)).trans hx154_5
       replace hx154_6:=(HB.out.cell (World.block_lt_of_cell? w _ hx154_6)).trans hx154_6
       have HR154_3:=Aside0.mk hi154_3
       have HC154_3:=Aside0.mk hl154_3
       clear hi154_3 hl154_3
       have HR154_4:=Aside0.mk hi154_4
       have HC154_4:=Aside0.mk hl154_4
       clear hi154_4 hl154_4
       replace p154:=eq_true p154
       replace q154:=eq_true q154
       go_wp2_with (first|((with_reducible refine gate_callee (f:=32) rfl ?_);refine goesL_ (some 20) rfl rfl Try.func32 (by kernel_rfl) rfl #[.agg #[.int .i64 ((rd_T26 l0 x7_1).f0),.bool ((rd_T26 l0 x7_1).f1),.int .i64 ((rd_T26 l0 x7_1).f2),.slice A154_3 ((rd_T26 l0 x7_1).f3).length c154_3,.slice A154_4 ((rd_T26 l0 x7_1).f4).length c154_4,.bool ((rd_T26 l0 x7_1).f5),.bool ((rd_T26 l0 x7_1).f6)]] rfl (by (try simp only [List.map_toArray,List.map_cons,List.map_nil]);first|done|rfl|(simp only [List.length_drop,List.length_take];rfl)) ?_;(with_reducible refine (spec_OldValid.calls k1 ((rd_T26 l0 x7_1).f0) ((rd_T26 l0 x7_1).f1) ((rd_T26 l0 x7_1).f2) _ _ ((rd_T26 l0 x7_1).f3) _ _ ((rd_T26 l0 x7_1).f4) ((rd_T26 l0 x7_1).f5) ((rd_T26 l0 x7_1).f6) true _ ?side1 ?side2 ?side3 ?side4 A9.out).mono ?_);(case side1=>repeat (first|exact (Kd.C_below HR154_3.out HB.out)|(with_reducible refine Kd.C_alloc ?_ _)|(with_reducible refine Kd.C_drewN ?_ _)|(with_reducible refine Kd.C_drew ?_)));(case side2=>exact HC154_3.out);(case side3=>repeat (first|exact (Kd.C_below HR154_4.out HB.out)|(with_reducible refine Kd.C_alloc ?_ _)|(with_reducible refine Kd.C_drewN ?_ _)|(with_reducible refine Kd.C_drew ?_)));(case side4=>exact HC154_4.out);rintro e w12 ⟨rfl,hb⟩;refine ⟨_,rfl,?_⟩;have n0_:=Aside0.mk (Kd.S_below (by (with_reducible repeat (first|apply Kd.S_alloc|apply Kd.S_drewN|apply Kd.S_drew));exact HO_153005.out) hb);have n1_:=Aside0.mk (blk_below (g:=gb151) (o:=.cells #[.bool x152000_1,.bool x152001_1,.int .i64 x152002_1,.int .i64 x152003_1,.int .i64 x152004_1,.slice none 0 0] 39 (0,0)) (by (with_reducible repeat (first|refine blk_drewN ?_ _|refine blk_drew ?_|refine blk_alloc ?_ _));exact BK151.out) hb);have n2_:=Aside0.mk (blk_below (g:=gb152) (o:=.cells #[.bool a1,.bool false,.int .i64 255,.int .i64 0,.int .i64 0,u153005] 39 (0,0)) (by (with_reducible repeat (first|refine blk_drewN ?_ _|refine blk_drew ?_|refine blk_alloc ?_ _));exact BK152.out) hb);have n3_:=Aside0.mk (below_step (by repeat (first|(with_reducible first|exact HB.out|apply below_alloc|apply pw_below_drewN|apply below_drew1|refine below_set ?_ GE151.out|refine below_set ?_ GE152.out)|exact HB.out)) hb);clear HO_153005;clear BK151;clear BK152;clear HB;have HO_153005:=n0_;have BK151:=n1_;have BK152:=n2_;have HB:=n3_;clear n0_ n1_ n2_ n3_;(try clear hb);(try clear hb2);(try clear hk);(try clear hi);have hnb13:=NB151_152.out;have hnc13:=NB152_151.out;have hcz14_0 : w12.cell? ⟨gb151,0,none⟩ = some (.bool x152000_1):=(blk_cell BK151.out 0).trans rfl;have hcz14_1 : w12.cell? ⟨gb151,1,none⟩ = some (.bool x152001_1):=(blk_cell BK151.out 1).trans rfl;have hcz14_2 : w12.cell? ⟨gb151,2,none⟩ = some (.int .i64 x152002_1):=(blk_cell BK151.out 2).trans rfl;have hcz14_3 : w12.cell? ⟨gb151,3,none⟩ = some (.int .i64 x152003_1):=(blk_cell BK151.out 3).trans rfl;have hcz14_4 : w12.cell? ⟨gb151,4,none⟩ = some (.int .i64 x152004_1):=(blk_cell BK151.out 4).trans rfl;have hcz14_5 : w12.cell? ⟨gb151,5,none⟩ = some (.slice none 0 0):=(blk_cell BK151.out 5).trans rfl;have hfz14_0:=blk_frozen BK151.out 0;have hfz14_1:=blk_frozen BK151.out 1;have hfz14_2:=blk_frozen BK151.out 2;have hfz14_3:=blk_frozen BK151.out 3;have hfz14_4:=blk_frozen BK151.out 4;have hfz14_5:=blk_frozen BK151.out 5))
       refine bodyPost_ret (results_ct rfl _ _ gb151 39 #[.bool false,.bool false,.int .i64 0,.int .i64 0,.int .i64 0,.slice none 0 0] (0,0) _ rfl (by (with_reducible repeat (first|refine blk_drewN ?_ _|refine blk_drew ?_|refine blk_alloc ?_ _));refine blk_put (cs:=#[.bool false,.bool false,.int .i64 0,.int .i64 0,.int .i64 0,.slice none 0 0]) ?_ 5 _ rfl;(with_reducible repeat (first|refine blk_drewN ?_ _|refine blk_drew ?_|refine blk_alloc ?_ _));refine blk_put (cs:=#[.bool false,.bool false,.int .i64 0,.int .i64 0,.int .i64 x152004_1,.slice none 0 0]) ?_ 4 _ rfl;(with_reducible repeat (first|refine blk_drewN ?_ _|refine blk_drew ?_|refine blk_alloc ?_ _));refine blk_put (cs:=#[.bool false,.bool false,.int .i64 0,.int .i64 x152003_1,.int .i64 x152004_1,.slice none 0 0]) ?_ 3 _ rfl;(with_reducible repeat (first|refine blk_drewN ?_ _|refine blk_drew ?_|refine blk_alloc ?_ _));refine blk_put (cs:=#[.bool false,.bool false,.int .i64 x152002_1,.int .i64 x152003_1,.int .i64 x152004_1,.slice none 0 0]) ?_ 2 _ rfl;(with_reducible repeat (first|refine blk_drewN ?_ _|refine blk_drew ?_|refine blk_alloc ?_ _));refine blk_put (cs:=#[.bool false,.bool x152001_1,.int .i64 x152002_1,.int .i64 x152003_1,.int .i64 x152004_1,.slice none 0 0]) ?_ 1 _ rfl;(with_reducible repeat (first|refine blk_drewN ?_ _|refine blk_drew ?_|refine blk_alloc ?_ _));refine blk_put (cs:=#[.bool x152000_1,.bool x152001_1,.int .i64 x152002_1,.int .i64 x152003_1,.int .i64 x152004_1,.slice none 0 0]) ?_ 0 _ rfl;(with_reducible repeat (first|refine blk_drewN ?_ _|refine blk_drew ?_|refine blk_alloc ?_ _));exact BK151.out) Try.underlying39 rfl (by kernel_rfl)) rfl ?_
       exact ⟨_,by first|rfl|(simp [errW_none,errW_some] <;> rfl)|(simp [*,errW_none,errW_some] <;> rfl),by first|exact Kd.S_nil _ _ _ _ _|exact Kd.N_nil _ _ _ _ _|exact Kd.V_nil _ _ _ _ _|exact Kd.Q_nil _ _ _ _ _|exact Kd.R_nil _ _ _ _ _,by repeat (first|(with_reducible first|exact HB.out|apply below_alloc|apply pw_below_drewN|apply below_drew1|refine below_set ?_ GE151.out|refine below_set ?_ GE152.out)|exact HB.out)⟩
      ·rw [if_neg c11] at H
       have c11b0 : decide (6 < (l0.length : Int))=false:=decide_eq_false c11
       have c11b1 : decide (6 < l0.length)=false:=decide_eq_false (by omega)
       clear c11
       replace H:=Option.bind_eq_some_iff.mp H
       obtain ⟨⟨t157,t158,t159,t160,t163,t164⟩,A150,H⟩:=H
       replace H : (if x153005_1.length < 1759218604441 then (spec_OldTurn.l0 k1 l0 (wrap64 (x7_1 + 1)) a1 false 255 0 0 (x153005_1 ++ [(⟨t157,t158,t159,t160,t163,t164⟩ : S57)])) else (none))=some (r1,r2,r3,r4,r5,r6,r7):=H
       have A15:=Aside0.mk A150
       clear A150
       by_cases c16 : x153005_1.length < 1759218604441
       ·rw [if_pos c16] at H
        have LMc16:=Aside0.mk c16
        clear c16
        obtain ⟨y167,hy167⟩ : ∃ y_ : List (S57),y_=(x153005_1 ++ [(⟨t157,t158,t159,t160,t163,t164⟩ : S57)]):=⟨_,rfl⟩
        replace H : (spec_OldTurn.l0 k1 l0 (wrap64 (x7_1 + 1)) a1 false 255 0 0 y167)=some (r1,r2,r3,r4,r5,r6,r7):=by first|(rw [hy167];with_reducible exact H)|(have H2_:=(Option.bind_some _ _).symm.trans H;rw [hy167];with_reducible exact H2_)|(have H2_:=(Option.bind_some _ _).symm.trans H;with_reducible exact H2_)|with_reducible exact H|(rw [hy167];exact H)|exact H
        have Ny167:=Aside0.mk hy167
        clear hy167
        have H':=Aside0.mk H
        clear H
        have p154 : 0 ≤ (x7_1 : Int):=of_decide_eq_true (by first|(with_reducible assumption)|assumption)
        have q154 : x7_1 < (l0.length : Int):=of_decide_eq_true (by first|(with_reducible assumption)|assumption)
        obtain ⟨ad154,A154_3,c154_3,A154_4,c154_4,e154,hx154_0,hx154_1,hx154_2,hx154_3,hx154_4,hx154_5,hx154_6,hl154_3,hi154_3,hl154_4,hi154_4⟩:=at_T26 HR0.out x7_1 p154 q154
        cases e154
        replace hx154_0:=(HB.out.cell (World.block_lt_of_cell? w _ hx154_0)).trans hx154_0
        replace hx154_1:=(HB.out.cell (World.block_lt_of_cell? w _ hx154_1)).trans hx154_1
        replace hx154_2:=(HB.out.cell (World.block_lt_of_cell? w _ hx154_2)).trans hx154_2
        replace hx154_3:=(HB.out.cell (World.block_lt_of_cell? w _ hx154_3)).trans hx154_3
        replace hx154_4:=(HB.out.cell (World.block_lt_of_cell? w _ hx154_4)).trans hx154_4
        replace hx154_5:=(HB.out.cell (World.block_lt_of_cell? w _ hx154_5)).trans hx154_5
        replace hx154_6:=(HB.out.cell (World.block_lt_of_cell? w _ hx154_6)).trans hx154_6
        have HR154_3:=Aside0.mk hi154_3
        have HC154_3:=Aside0.mk hl154_3
        clear hi154_3 hl154_3
        have HR154_4:=Aside0.mk hi154_4
        have HC154_4:=Aside0.mk hl154_4
        clear hi154_4 hl154_4
        replace p154:=eq_true p154
        replace q154:=eq_true q154
        try go_wp2_with (first|((with_reducible refine gate_callee (f:=32) rfl ?_);refine goesL_ (some 20) rfl rfl Try.func32 (by kernel_rfl) rfl #[.agg #[.int .i64 ((rd_T26 l0 x7_1).f0),.bool ((rd_T26 l0 x7_1).f1),.int .i64 ((rd_T26 l0 x7_1).f2),.slice A154_3 ((rd_T26 l0 x7_1).f3).length c154_3,.slice A154_4 ((rd_T26 l0 x7_1).f4).length c154_4,.bool ((rd_T26 l0 x7_1).f5),.bool ((rd_T26 l0 x7_1).f6)]] rfl (by (try simp only [List.map_toArray,List.map_cons,List.map_nil]);first|done|rfl|(simp only [List.length_drop,List.length_take];rfl)) ?_;(with_reducible refine (spec_OldValid.calls k1 ((rd_T26 l0 x7_1).f0) ((rd_T26 l0 x7_1).f1) ((rd_T26 l0 x7_1).f2) _ _ ((rd_T26 l0 x7_1).f3) _ _ ((rd_T26 l0 x7_1).f4) ((rd_T26 l0 x7_1).f5) ((rd_T26 l0 x7_1).f6) true _ ?side1 ?side2 ?side3 ?side4 A9.out).mono ?_);(case side1=>repeat (first|exact (Kd.C_below HR154_3.out HB.out)|(with_reducible refine Kd.C_alloc ?_ _)|(with_reducible refine Kd.C_drewN ?_ _)|(with_reducible refine Kd.C_drew ?_)));(case side2=>exact HC154_3.out);(case side3=>repeat (first|exact (Kd.C_below HR154_4.out HB.out)|(with_reducible refine Kd.C_alloc ?_ _)|(with_reducible refine Kd.C_drewN ?_ _)|(with_reducible refine Kd.C_drew ?_)));(case side4=>exact HC154_4.out);rintro e w17 ⟨rfl,hb⟩;refine ⟨_,rfl,?_⟩;have n0_:=Aside0.mk (Kd.S_below (by (with_reducible repeat (first|apply Kd.S_alloc|apply Kd.S_drewN|apply Kd.S_drew));exact HO_153005.out) hb);have n1_:=Aside0.mk (blk_below (g:=gb151) (o:=.cells #[.bool x152000_1,.bool x152001_1,.int .i64 x152002_1,.int .i64 x152003_1,.int .i64 x152004_1,.slice none 0 0] 39 (0,0)) (by (with_reducible repeat (first|refine blk_drewN ?_ _|refine blk_drew ?_|refine blk_alloc ?_ _));exact BK151.out) hb);have n2_:=Aside0.mk (blk_below (g:=gb152) (o:=.cells #[.bool a1,.bool false,.int .i64 255,.int .i64 0,.int .i64 0,u153005] 39 (0,0)) (by (with_reducible repeat (first|refine blk_drewN ?_ _|refine blk_drew ?_|refine blk_alloc ?_ _));exact BK152.out) hb);have n3_:=Aside0.mk (below_step (by repeat (first|(with_reducible first|exact HB.out|apply below_alloc|apply pw_below_drewN|apply below_drew1|refine below_set ?_ GE151.out|refine below_set ?_ GE152.out)|exact HB.out)) hb);clear HO_153005;clear BK151;clear BK152;clear HB;have HO_153005:=n0_;have BK151:=n1_;have BK152:=n2_;have HB:=n3_;clear n0_ n1_ n2_ n3_;(try clear hb);(try clear hb2);(try clear hk);(try clear hi)))
        have n0_:=Aside0.mk (Kd.S_drew HO_153005.out)
        have n1_:=Aside0.mk (blk_drew BK151.out)
        have n2_:=Aside0.mk (blk_drew BK152.out)
        have n3_:=Aside0.mk (below_drew1 HB.out)
        clear HO_153005
        clear BK151
        clear BK152
        clear HB
        have HO_153005:=n0_
        have BK151:=n1_
        have BK152:=n2_
        have HB:=n3_
        clear n0_ n1_ n2_ n3_
        have p156 : 0 ≤ (x7_1 : Int):=of_decide_eq_true (by first|(with_reducible assumption)|assumption)
        have q156 : x7_1 < (l0.length : Int):=of_decide_eq_true (by first|(with_reducible assumption)|assumption)
        obtain ⟨ad156,A156_3,c156_3,A156_4,c156_4,e156,hx156_0,hx156_1,hx156_2,hx156_3,hx156_4,hx156_5,hx156_6,hl156_3,hi156_3,hl156_4,hi156_4⟩:=at_T26 HR0.out x7_1 p156 q156
        have hw156_6:=hx156_6
        have hw156_5:=hx156_5
        have hw156_4:=hx156_4
        have hw156_3:=hx156_3
        have hw156_2:=hx156_2
        have hw156_1:=hx156_1
        have hw156_0:=hx156_0
        obtain rfl : ad154=ad156:=(by injection e156)
        replace hx156_0:=(HB.out.cell (World.block_lt_of_cell? w _ hx156_0)).trans hx156_0
        replace hx156_1:=(HB.out.cell (World.block_lt_of_cell? w _ hx156_1)).trans hx156_1
        replace hx156_2:=(HB.out.cell (World.block_lt_of_cell? w _ hx156_2)).trans hx156_2
        replace hx156_3:=(HB.out.cell (World.block_lt_of_cell? w _ hx156_3)).trans hx156_3
        replace hx156_4:=(HB.out.cell (World.block_lt_of_cell? w _ hx156_4)).trans hx156_4
        replace hx156_5:=(HB.out.cell (World.block_lt_of_cell? w _ hx156_5)).trans hx156_5
        replace hx156_6:=(HB.out.cell (World.block_lt_of_cell? w _ hx156_6)).trans hx156_6
        have HR156_3:=Aside0.mk hi156_3
        have HC156_3:=Aside0.mk hl156_3
        clear hi156_3 hl156_3
        have HR156_4:=Aside0.mk hi156_4
        have HC156_4:=Aside0.mk hl156_4
        clear hi156_4 hl156_4
        replace p156:=eq_true p156
        replace q156:=eq_true q156
        refine start_ (n:=11) (S:=fun w'=>w'.cell? ⟨gb152,0,none⟩ = some (.bool a1)∧w'.cell? ⟨gb152,1,none⟩ = some (.bool false)∧w'.cell? ⟨gb152,2,none⟩ = some (.int .i64 255)∧w'.cell? ⟨gb152,3,none⟩ = some (.int .i64 0)∧w'.cell? ⟨gb152,4,none⟩ = some (.int .i64 0)∧w'.cell? ⟨gb152,5,none⟩ = some (u153005)∧w'.cell? (ad154.add ((x7_1).toNat * 7))=some (.int .i64 ((rd_T26 l0 x7_1).f0))∧w'.cell? ⟨(ad154.add ((x7_1).toNat * 7)).block,(ad154.add ((x7_1).toNat * 7)).off + 1,none⟩ = some (.bool ((rd_T26 l0 x7_1).f1))∧w'.cell? ⟨(ad154.add ((x7_1).toNat * 7)).block,(ad154.add ((x7_1).toNat * 7)).off + 2,none⟩ = some (.int .i64 ((rd_T26 l0 x7_1).f2))∧w'.cell? ⟨(ad154.add ((x7_1).toNat * 7)).block,(ad154.add ((x7_1).toNat * 7)).off + 3,none⟩ = some (.slice A156_3 ((rd_T26 l0 x7_1).f3).length c156_3)∧w'.cell? ⟨(ad154.add ((x7_1).toNat * 7)).block,(ad154.add ((x7_1).toNat * 7)).off + 4,none⟩ = some (.slice A156_4 ((rd_T26 l0 x7_1).f4).length c156_4)∧w'.cell? ⟨(ad154.add ((x7_1).toNat * 7)).block,(ad154.add ((x7_1).toNat * 7)).off + 5,none⟩ = some (.bool ((rd_T26 l0 x7_1).f5))∧w'.cell? ⟨(ad154.add ((x7_1).toNat * 7)).block,(ad154.add ((x7_1).toNat * 7)).off + 6,none⟩ = some (.bool ((rd_T26 l0 x7_1).f6))) (ds:=[10]) #[false,false,false,false,false,false,false,false,false,false,false] (by kernel_rfl) rfl rfl ⟨(blk_cell BK152.out 0).trans rfl,(blk_cell BK152.out 1).trans rfl,(blk_cell BK152.out 2).trans rfl,(blk_cell BK152.out 3).trans rfl,(blk_cell BK152.out 4).trans rfl,(blk_cell BK152.out 5).trans rfl,((HB.out.cell (World.block_lt_of_cell? w _ hw156_0)).trans hw156_0),((HB.out.cell (World.block_lt_of_cell? w _ hw156_1)).trans hw156_1),((HB.out.cell (World.block_lt_of_cell? w _ hw156_2)).trans hw156_2),((HB.out.cell (World.block_lt_of_cell? w _ hw156_3)).trans hw156_3),((HB.out.cell (World.block_lt_of_cell? w _ hw156_4)).trans hw156_4),((HB.out.cell (World.block_lt_of_cell? w _ hw156_5)).trans hw156_5),((HB.out.cell (World.block_lt_of_cell? w _ hw156_6)).trans hw156_6)⟩ (fun hHeld=>?_);refine with_tabW spec_OldTurn.tab7 spec_OldTurn.bits7 (fun HT_ HW_=>?_)
        generalize w17.drew=w18 at HO_153005 BK151 BK152 HB HR156_3 HR156_4 hx156_0 hx156_1 hx156_2 hx156_3 hx156_4 hx156_5 hx156_6 hHeld ⊢
        refine pure_ (i:=0) (N:=some 28) (v:=?_) (a':=?_) #[true,false,false,false,false,false,false,false,false,false,false] rfl rfl (any_of HT_.out (by kernel_rfl)) (fun _ _ _ h=>h) (Or.inl ⟨by rfl,?_⟩) ?_ ?_
        rotate_left
        ·intro w'
         go_simp
         with_reducible rfl
        rotate_left
        ·simp only [Act.put,List.setIfInBounds_toArray,List.set_cons_zero,List.set_cons_succ,i64_w,i32_w]
         rfl
        refine pure_ (i:=2) (N:=some 30) (v:=?_) (a':=?_) #[true,false,true,false,false,false,false,false,false,false,false] rfl rfl (any_of HT_.out (by kernel_rfl)) (fun _ _ _ h=>h) (Or.inl ⟨by rfl,?_⟩) ?_ ?_
        rotate_left
        ·intro w'
         go_simp
         with_reducible rfl
        rotate_left
        ·simp only [Act.put,List.setIfInBounds_toArray,List.set_cons_zero,List.set_cons_succ,i64_w,i32_w]
         rfl
        refine pure_ (i:=3) (N:=some 31) (v:=?_) (a':=?_) #[true,false,true,true,false,false,false,false,false,false,false] rfl rfl (any_of HT_.out (by kernel_rfl)) (fun _ _ _ h=>h) (Or.inl ⟨by rfl,?_⟩) ?_ ?_
        rotate_left
        ·intro w'
         go_simp
         with_reducible rfl
        rotate_left
        ·simp only [Act.put,List.setIfInBounds_toArray,List.set_cons_zero,List.set_cons_succ,i64_w,i32_w]
         rfl
        refine pure_ (i:=4) (N:=some 32) (v:=?_) (a':=?_) #[true,false,true,true,true,false,false,false,false,false,false] rfl rfl (any_of HT_.out (by kernel_rfl)) (fun _ _ _ h=>h) (Or.inl ⟨by rfl,?_⟩) ?_ ?_
        rotate_left
        ·intro w'
         go_simp
         with_reducible rfl
        rotate_left
        ·simp only [Act.put,List.setIfInBounds_toArray,List.set_cons_zero,List.set_cons_succ,i64_w,i32_w]
         rfl
        refine take_ (i:=1) (N:=some 29) (v:=?_) (a':=?_) #[true,true,true,true,true,false,false,false,false,false,false] rfl rfl (take_ofW HT_.out HW_.out (by kernel_rfl)) (fun _ _ _ h=>h) (Or.inl ⟨by rfl,?_⟩) hHeld ?_ ?_
        rotate_left
        ·rintro w' ⟨s0,s1,s2,s3,s4,s5,s6,s7,s8,s9,s10,s11,s12⟩
         go_simp
         with_reducible rfl
        rotate_left
        ·simp only [Act.put,List.setIfInBounds_toArray,List.set_cons_zero,List.set_cons_succ,i64_w,i32_w]
         rfl
        refine take_ (i:=5) (N:=some 33) (v:=?_) (a':=?_) #[true,true,true,true,true,true,false,false,false,false,false] rfl rfl (take_ofW HT_.out HW_.out (by kernel_rfl)) (fun _ _ _ h=>h) (Or.inl ⟨by rfl,?_⟩) hHeld ?_ ?_
        rotate_left
        ·rintro w' ⟨s0,s1,s2,s3,s4,s5,s6,s7,s8,s9,s10,s11,s12⟩
         go_simp
         with_reducible rfl
        rotate_left
        ·simp only [Act.put,List.setIfInBounds_toArray,List.set_cons_zero,List.set_cons_succ,i64_w,i32_w]
         rfl
        refine one_ (i:=6) (N:=some 34) #[true,true,true,true,true,true,true,false,false,false,false] rfl rfl (one_of HT_.out (by kernel_rfl)) (by decide) (fun K hK=>?_)
        refine goes_ Try.func61 (by kernel_rfl) rfl #[.agg #[.int .i64 ((rd_T26 l0 x7_1).f0),.bool ((rd_T26 l0 x7_1).f1),.int .i64 ((rd_T26 l0 x7_1).f2),.slice A156_3 ((rd_T26 l0 x7_1).f3).length c156_3,.slice A156_4 ((rd_T26 l0 x7_1).f4).length c156_4,.bool ((rd_T26 l0 x7_1).f5),.bool ((rd_T26 l0 x7_1).f6)]] (by rfl) rfl rfl (by (try simp only [List.map_toArray,List.map_cons,List.map_nil]);first|done|rfl|(simp only [List.length_drop,List.length_take];rfl)) ?_
        with_reducible refine (spec_l11Record.calls ((rd_T26 l0 x7_1).f0) ((rd_T26 l0 x7_1).f1) ((rd_T26 l0 x7_1).f2) _ _ ((rd_T26 l0 x7_1).f3) _ _ ((rd_T26 l0 x7_1).f4) ((rd_T26 l0 x7_1).f5) ((rd_T26 l0 x7_1).f6) t157 t158 t159 t160 t163 t164 _ ?side1 ?side2 ?side3 ?side4 A15.out).mono ?_
        (case side1=>repeat (first|exact (Kd.C_below HR156_3.out HB.out)|(with_reducible refine Kd.C_alloc ?_ _)|(with_reducible refine Kd.C_drewN ?_ _)|(with_reducible refine Kd.C_drew ?_)))
        (case side2=>exact HC156_3.out)
        (case side3=>repeat (first|exact (Kd.C_below HR156_4.out HB.out)|(with_reducible refine Kd.C_alloc ?_ _)|(with_reducible refine Kd.C_drewN ?_ _)|(with_reducible refine Kd.C_drew ?_)))
        (case side4=>exact HC156_4.out)
        rintro e w19 ⟨v161,v165,rfl,ho0,ho1,hb⟩
        refine ⟨_,rfl,?_⟩
        have n0_:=Aside0.mk (Kd.S_mono (Kd.S_told (Kd.S_told (Kd.S_old (by (with_reducible repeat (first|apply Kd.S_alloc|apply Kd.S_drewN|apply Kd.S_drew));exact HO_153005.out) hb) (Kd.R_base ho0)) (Kd.R_base ho1)) (fun _ h_=>h_.1))
        have n1_:=Aside0.mk (Kd.R_lower ho0 (below_size (by repeat (first|(with_reducible first|exact HB.out|apply below_alloc|apply pw_below_drewN|apply below_drew1|refine below_set ?_ GE151.out|refine below_set ?_ GE152.out)|exact HB.out))))
        have n2_:=Aside0.mk (Kd.R_lower ho1 (below_size (by repeat (first|(with_reducible first|exact HB.out|apply below_alloc|apply pw_below_drewN|apply below_drew1|refine below_set ?_ GE151.out|refine below_set ?_ GE152.out)|exact HB.out))))
        have n3_:=Aside0.mk (blk_below (g:=gb151) (o:=.cells #[.bool x152000_1,.bool x152001_1,.int .i64 x152002_1,.int .i64 x152003_1,.int .i64 x152004_1,.slice none 0 0] 39 (0,0)) (by (with_reducible repeat (first|refine blk_drewN ?_ _|refine blk_drew ?_|refine blk_alloc ?_ _));exact BK151.out) hb)
        have n4_:=Aside0.mk (blk_below (g:=gb152) (o:=.cells #[.bool a1,.bool false,.int .i64 255,.int .i64 0,.int .i64 0,u153005] 39 (0,0)) (by (with_reducible repeat (first|refine blk_drewN ?_ _|refine blk_drew ?_|refine blk_alloc ?_ _));exact BK152.out) hb)
        have n5_:=Aside0.mk (below_step (by repeat (first|(with_reducible first|exact HB.out|apply below_alloc|apply pw_below_drewN|apply below_drew1|refine below_set ?_ GE151.out|refine below_set ?_ GE152.out)|exact HB.out)) hb)
        clear HO_153005
        clear BK151
        clear BK152
        clear HB
        have HO_153005:=n0_
        have HO162:=n1_
        have HO166:=n2_
        have BK151:=n3_
        have BK152:=n4_
        have HB:=n5_
        clear n0_ n1_ n2_ n3_ n4_ n5_
        (try clear hb)
        (try clear hb2)
        (try clear hk)
        (try clear hi)
        (try clear ho0)
        (try clear ho1)
        obtain ⟨Ao21,co21,eo21⟩:=Kd.R_slice HO162.out
        (first|subst eo21|(injection eo21 with f1_ f2_ f3_;have f4_:=f1_.symm;have f5_:=f3_.symm;clear f1_ f2_ f3_;subst f4_;subst f5_))
        obtain ⟨Ao22,co22,eo22⟩:=Kd.R_slice HO166.out
        (first|subst eo22|(injection eo22 with f1_ f2_ f3_;have f4_:=f1_.symm;have f5_:=f3_.symm;clear f1_ f2_ f3_;subst f4_;subst f5_))
        refine hK.out _ _ ⟨(blk_cell BK152.out 0).trans rfl,(blk_cell BK152.out 1).trans rfl,(blk_cell BK152.out 2).trans rfl,(blk_cell BK152.out 3).trans rfl,(blk_cell BK152.out 4).trans rfl,(blk_cell BK152.out 5).trans rfl,((HB.out.cell (World.block_lt_of_cell? w _ hw156_0)).trans hw156_0),((HB.out.cell (World.block_lt_of_cell? w _ hw156_1)).trans hw156_1),((HB.out.cell (World.block_lt_of_cell? w _ hw156_2)).trans hw156_2),((HB.out.cell (World.block_lt_of_cell? w _ hw156_3)).trans hw156_3),((HB.out.cell (World.block_lt_of_cell? w _ hw156_4)).trans hw156_4),((HB.out.cell (World.block_lt_of_cell? w _ hw156_5)).trans hw156_5),((HB.out.cell (World.block_lt_of_cell? w _ hw156_6)).trans hw156_6)⟩ (fun hHeld=>?_)
        clear hK K
        refine norm_ (a':=?_) ?_ ?_
        rotate_left
        ·show Act.put _ (some 34) _=_
         simp only [Act.put,List.setIfInBounds_toArray,List.set_cons_zero,List.set_cons_succ,i64_w,i32_w]
         rfl
        refine one_ (i:=7) (N:=some 35) #[true,true,true,true,true,true,true,true,false,false,false] rfl rfl (one_of HT_.out (by kernel_rfl)) (by decide) (fun K hK=>?_)
        refine value_ (w1:=?_) (v:=?_) (by rfl) rfl ?_ ?_
        rotate_left 2
        ·go_simp
         constructor
         ·rfl
         ·rfl
        refine hK.out _ _ ⟨(blk_cell (blk_alloc BK152.out _) 0).trans rfl,(blk_cell (blk_alloc BK152.out _) 1).trans rfl,(blk_cell (blk_alloc BK152.out _) 2).trans rfl,(blk_cell (blk_alloc BK152.out _) 3).trans rfl,(blk_cell (blk_alloc BK152.out _) 4).trans rfl,(blk_cell (blk_alloc BK152.out _) 5).trans rfl,(World.cell?_alloc_lt _ _ _ (World.block_lt_of_cell? _ _ (((HB.out.cell (World.block_lt_of_cell? w _ hw156_0)).trans hw156_0)))).trans (((HB.out.cell (World.block_lt_of_cell? w _ hw156_0)).trans hw156_0)),(World.cell?_alloc_lt _ _ _ (World.block_lt_of_cell? _ _ (((HB.out.cell (World.block_lt_of_cell? w _ hw156_1)).trans hw156_1)))).trans (((HB.out.cell (World.block_lt_of_cell? w _ hw156_1)).trans hw156_1)),(World.cell?_alloc_lt _ _ _ (World.block_lt_of_cell? _ _ (((HB.out.cell (World.block_lt_of_cell? w _ hw156_2)).trans hw156_2)))).trans (((HB.out.cell (World.block_lt_of_cell? w _ hw156_2)).trans hw156_2)),(World.cell?_alloc_lt _ _ _ (World.block_lt_of_cell? _ _ (((HB.out.cell (World.block_lt_of_cell? w _ hw156_3)).trans hw156_3)))).trans (((HB.out.cell (World.block_lt_of_cell? w _ hw156_3)).trans hw156_3)),(World.cell?_alloc_lt _ _ _ (World.block_lt_of_cell? _ _ (((HB.out.cell (World.block_lt_of_cell? w _ hw156_4)).trans hw156_4)))).trans (((HB.out.cell (World.block_lt_of_cell? w _ hw156_4)).trans hw156_4)),(World.cell?_alloc_lt _ _ _ (World.block_lt_of_cell? _ _ (((HB.out.cell (World.block_lt_of_cell? w _ hw156_5)).trans hw156_5)))).trans (((HB.out.cell (World.block_lt_of_cell? w _ hw156_5)).trans hw156_5)),(World.cell?_alloc_lt _ _ _ (World.block_lt_of_cell? _ _ (((HB.out.cell (World.block_lt_of_cell? w _ hw156_6)).trans hw156_6)))).trans (((HB.out.cell (World.block_lt_of_cell? w _ hw156_6)).trans hw156_6))⟩ (fun hHeld=>?_)
        clear hK K
        refine norm_ (a':=?_) ?_ ?_
        rotate_left
        ·show Act.put _ (some 35) _=_
         simp only [Act.put,List.setIfInBounds_toArray,List.set_cons_zero,List.set_cons_succ,i64_w,i32_w]
         rfl
        refine one_ (i:=8) (N:=some 36) #[true,true,true,true,true,true,true,true,true,false,false] rfl rfl (one_of HT_.out (by kernel_rfl)) (by decide) (fun K hK=>?_)
        refine Kd.S_append_step k57 (w0:=w) w.heap.size (by rfl) (.tmp 29) (.tmp 35) 37 57 (.agg #[(.int .i64 0),(.int .i64 0),(.bool false),(.slice none 0 0),(.bool false),(.slice none 0 0)]) 80 rfl Try.underlying37 info57 rfl (by decide) (by omega) u153005 x153005_1 (⟨t157,t158,t159,t160,t163,t164⟩ : S57) [.int .i64 t157,.int .i64 t158,.bool t159,.slice Ao21 t160.length co21,.bool t163,.slice Ao22 t164.length co22] (fun _=>True) (fun k_=>some k_=(.slice Ao21 t160.length co21 : Value).ownBlock ∨ some k_=(.slice Ao22 t164.length co22 : Value).ownBlock) rfl rfl ?aP (fun k_ hk_=>hk_.elim (fun h_=>((Kd.R_mono (ok':=fun k_=>((fun _=>True)) k_∧some k_ ≠ (u153005 : Value).ownBlock) (Kd.R_apart' (HO162.out) (Kd.S_typed HO_153005.out) (by decide)) (fun k_ hk=>⟨trivial,hk.2⟩))).1 k_ h_.symm) (fun h_=>((Kd.R_mono (ok':=fun k_=>((fun _=>True)) k_∧some k_ ≠ (u153005 : Value).ownBlock) (Kd.R_apart' (HO166.out) (Kd.S_typed HO_153005.out) (by decide)) (fun k_ hk=>⟨trivial,hk.2⟩))).1 k_ h_.symm)) ?aF ?aO ?aB ?aS ?aL ?_
        (case aP=>exact k57_mkM _ _ _ (⟨t157,t158,t159,t160,t163,t164⟩ : S57) (Kd.R_mono (Kd.R_tight rfl (Kd.R_mono (ok':=fun k_=>((fun _=>True)) k_∧some k_ ≠ (u153005 : Value).ownBlock) (Kd.R_apart' (HO162.out) (Kd.S_typed HO_153005.out) (by decide)) (fun k_ hk=>⟨trivial,hk.2⟩))) (fun _ h_=>Or.inl h_)) (Kd.R_mono (Kd.R_tight rfl (Kd.R_mono (ok':=fun k_=>((fun _=>True)) k_∧some k_ ≠ (u153005 : Value).ownBlock) (Kd.R_apart' (HO166.out) (Kd.S_typed HO_153005.out) (by decide)) (fun k_ hk=>⟨trivial,hk.2⟩))) (fun _ h_=>Or.inr (h_))))
        (case aB=>exact (by repeat (first|(with_reducible first|exact HB.out|apply below_alloc|apply pw_below_drewN|apply below_drew1|refine below_set ?_ GE151.out|refine below_set ?_ GE152.out)|exact HB.out)))
        (case aF=>exact (fun _ _=>trivial))
        (case aO=>exact (by (with_reducible repeat (first|apply Kd.S_alloc|apply Kd.S_drewN|apply Kd.S_drew));exact Kd.S_mono HO_153005.out (fun k_ hk=>⟨trivial,fun e_=>e_.elim (fun h_=>hk.1.2 h_) (fun h_=>hk.2 h_)⟩)))
        (case aS=>exact (below_size (by repeat (first|(with_reducible first|exact HB.out|apply below_alloc|apply pw_below_drewN|apply below_drew1|refine below_set ?_ GE151.out|refine below_set ?_ GE152.out)|exact HB.out))))
        (case aL=>have:=LMc16.out;omega)
        intro v168 w20 ho hb hg hat
        rw [← Ny167.out] at ho
        have n0_:=Aside0.mk (blk_grown (g:=gb151) (o:=.cells #[.bool x152000_1,.bool x152001_1,.int .i64 x152002_1,.int .i64 x152003_1,.int .i64 x152004_1,.slice none 0 0] 39 (0,0)) (by (with_reducible repeat (first|refine blk_drewN ?_ _|refine blk_drew ?_|refine blk_alloc ?_ _));exact BK151.out) hg (Kd.S_ne HO_153005.out BK151.out (by decide)))
        have n1_:=Aside0.mk (blk_grown (g:=gb152) (o:=.cells #[.bool a1,.bool false,.int .i64 255,.int .i64 0,.int .i64 0,u153005] 39 (0,0)) (by (with_reducible repeat (first|refine blk_drewN ?_ _|refine blk_drew ?_|refine blk_alloc ?_ _));exact BK152.out) hg (Kd.S_ne HO_153005.out BK152.out (by decide)))
        have n2_:=Aside0.mk (hb)
        have n3_:=Aside0.mk (ho)
        clear BK151
        clear BK152
        clear HB
        clear HO_153005
        clear HO162
        clear HO166
        have BK151:=n0_
        have BK152:=n1_
        have HB:=n2_
        have HO169:=n3_
        clear n0_ n1_ n2_ n3_
        clear ho hb hg hat
        obtain ⟨Ao23,co23,eo23⟩:=Kd.S_slice HO169.out
        (first|subst eo23|(injection eo23 with f1_ f2_ f3_;have f4_:=f1_.symm;have f5_:=f3_.symm;clear f1_ f2_ f3_;subst f4_;subst f5_))
        refine hK.out _ _ ⟨(blk_cell BK152.out 0).trans rfl,(blk_cell BK152.out 1).trans rfl,(blk_cell BK152.out 2).trans rfl,(blk_cell BK152.out 3).trans rfl,(blk_cell BK152.out 4).trans rfl,(blk_cell BK152.out 5).trans rfl,((HB.out.cell (World.block_lt_of_cell? w _ hw156_0)).trans hw156_0),((HB.out.cell (World.block_lt_of_cell? w _ hw156_1)).trans hw156_1),((HB.out.cell (World.block_lt_of_cell? w _ hw156_2)).trans hw156_2),((HB.out.cell (World.block_lt_of_cell? w _ hw156_3)).trans hw156_3),((HB.out.cell (World.block_lt_of_cell? w _ hw156_4)).trans hw156_4),((HB.out.cell (World.block_lt_of_cell? w _ hw156_5)).trans hw156_5),((HB.out.cell (World.block_lt_of_cell? w _ hw156_6)).trans hw156_6)⟩ (fun hHeld=>?_)
        clear hK K
        refine norm_ (a':=?_) ?_ ?_
        rotate_left
        ·show Act.put _ (some 36) _=_
         simp only [Act.put,List.setIfInBounds_toArray,List.set_cons_zero,List.set_cons_succ,i64_w,i32_w]
         rfl
        refine pure_ (i:=9) (N:=some 37) (v:=?_) (a':=?_) #[true,true,true,true,true,true,true,true,true,true,false] rfl rfl (any_of HT_.out (by kernel_rfl)) (fun _ _ _ h=>h) (Or.inl ⟨by rfl,?_⟩) ?_ ?_
        rotate_left
        ·intro w'
         go_simp
         with_reducible rfl
        rotate_left
        ·simp only [Act.put,List.setIfInBounds_toArray,List.set_cons_zero,List.set_cons_succ,i64_w,i32_w]
         rfl
        refine last_ (i:=10) (N:=none) #[true,true,true,true,true,true,true,true,true,true,true] rfl rfl (one_of HT_.out (by kernel_rfl)) (by decide) (fun K hK=>?_)
        have hs24 : w20.cell? ⟨gb152,5,none⟩ = some (u153005):=(blk_cell BK152.out 5).trans rfl
        have hfs24:=blk_frozen BK152.out 5
        have hns24_0:=NB151_152.out
        have hms24_0:=NB152_151.out
        refine skip_ (w1:=?_) (by rfl) rfl ?_ ?_
        rotate_left
        ·go_simp
         rfl
        refine hK.out _ _ ?_
        clear hK K
        refine done_ (done_of HT_.out (by kernel_rfl)) ?_
        try go_wp2
        go_roundg k1
        case measure=>have:=HK1.out;omega
        case rel=>exact ⟨(wrap64 (x7_1 + 1)),(x152000_1),(x152001_1),(x152002_1),(x152003_1),(x152004_1),(y167),(.slice Ao23 y167.length co23),(by first|rfl|(simp;done)|(simp [*];done)),H',⟨by have:=HK1.out;omega⟩,⟨by (with_reducible repeat (first|apply Kd.S_alloc|apply Kd.S_drewN|apply Kd.S_drew));exact Kd.S_mono (Kd.S_far (p:=⟨gb152,5,none⟩) (Kd.S_types HO169.out BK152.out (by decide)) (fun _ hk=>hk.2) (.slice Ao23 y167.length co23)) (fun _ hk=>trivial)⟩,⟨by (with_reducible repeat (first|refine blk_drewN ?_ _|refine blk_drew ?_|refine blk_alloc ?_ _));refine blk_far ?_ NB151_152.out _;(with_reducible repeat (first|refine blk_drewN ?_ _|refine blk_drew ?_|refine blk_alloc ?_ _));exact BK151.out⟩,⟨by (with_reducible repeat (first|refine blk_drewN ?_ _|refine blk_drew ?_|refine blk_alloc ?_ _));refine blk_put (cs:=#[.bool a1,.bool false,.int .i64 255,.int .i64 0,.int .i64 0,u153005]) ?_ 5 _ rfl;(with_reducible repeat (first|refine blk_drewN ?_ _|refine blk_drew ?_|refine blk_alloc ?_ _));exact BK152.out⟩,⟨by repeat (first|(with_reducible first|exact HB.out|apply below_alloc|apply pw_below_drewN|apply below_drew1|refine below_set ?_ GE151.out|refine below_set ?_ GE152.out)|exact HB.out)⟩⟩
       ·rw [if_neg c16] at H
        exact absurd H (by simp)
     ·replace c10:=Bool.eq_false_iff.mpr c10
      subst c10
      have H1 : (some (false,false,0,0,0,([] : List (S57)),false))=some (r1,r2,r3,r4,r5,r6,r7):=by rw [if_neg (show ¬ (false=true) by decide)] at H;exact H
      clear H
      have H:=H1
      clear H1
      simp only [Option.some.injEq,Prod.mk.injEq] at H
      obtain ⟨rfl,rfl,rfl,rfl,rfl,rfl,rfl⟩:=H
      have p154 : 0 ≤ (x7_1 : Int):=of_decide_eq_true (by first|(with_reducible assumption)|assumption)
      have q154 : x7_1 < (l0.length : Int):=of_decide_eq_true (by first|(with_reducible assumption)|assumption)
      obtain ⟨ad154,A154_3,c154_3,A154_4,c154_4,e154,hx154_0,hx154_1,hx154_2,hx154_3,hx154_4,hx154_5,hx154_6,hl154_3,hi154_3,hl154_4,hi154_4⟩:=at_T26 HR0.out x7_1 p154 q154
      cases e154
      replace hx154_0:=(HB.out.cell (World.block_lt_of_cell? w _ hx154_0)).trans hx154_0
      replace hx154_1:=(HB.out.cell (World.block_lt_of_cell? w _ hx154_1)).trans hx154_1
      replace hx154_2:=(HB.out.cell (World.block_lt_of_cell? w _ hx154_2)).trans hx154_2
      replace hx154_3:=(HB.out.cell (World.block_lt_of_cell? w _ hx154_3)).trans hx154_3
      replace hx154_4:=(HB.out.cell (World.block_lt_of_cell? w _ hx154_4)).trans hx154_4
      replace hx154_5:=(HB.out.cell (World.block_lt_of_cell? w _ hx154_5)).trans hx154_5
      replace hx154_6:=(HB.out.cell (World.block_lt_of_cell? w _ hx154_6)).trans hx154_6
      have HR154_3:=Aside0.mk hi154_3
      have HC154_3:=Aside0.mk hl154_3
      clear hi154_3 hl154_3
      have HR154_4:=Aside0.mk hi154_4
      have HC154_4:=Aside0.mk hl154_4
      clear hi154_4 hl154_4
      replace p154:=eq_true p154
      replace q154:=eq_true q154
      go_wp2_with (first|((with_reducible refine gate_callee (f:=32) rfl ?_);refine goesL_ (some 20) rfl rfl Try.func32 (by kernel_rfl) rfl #[.agg #[.int .i64 ((rd_T26 l0 x7_1).f0),.bool ((rd_T26 l0 x7_1).f1),.int .i64 ((rd_T26 l0 x7_1).f2),.slice A154_3 ((rd_T26 l0 x7_1).f3).length c154_3,.slice A154_4 ((rd_T26 l0 x7_1).f4).length c154_4,.bool ((rd_T26 l0 x7_1).f5),.bool ((rd_T26 l0 x7_1).f6)]] rfl (by (try simp only [List.map_toArray,List.map_cons,List.map_nil]);first|done|rfl|(simp only [List.length_drop,List.length_take];rfl)) ?_;(with_reducible refine (spec_OldValid.calls k1 ((rd_T26 l0 x7_1).f0) ((rd_T26 l0 x7_1).f1) ((rd_T26 l0 x7_1).f2) _ _ ((rd_T26 l0 x7_1).f3) _ _ ((rd_T26 l0 x7_1).f4) ((rd_T26 l0 x7_1).f5) ((rd_T26 l0 x7_1).f6) false _ ?side1 ?side2 ?side3 ?side4 A9.out).mono ?_);(case side1=>repeat (first|exact (Kd.C_below HR154_3.out HB.out)|(with_reducible refine Kd.C_alloc ?_ _)|(with_reducible refine Kd.C_drewN ?_ _)|(with_reducible refine Kd.C_drew ?_)));(case side2=>exact HC154_3.out);(case side3=>repeat (first|exact (Kd.C_below HR154_4.out HB.out)|(with_reducible refine Kd.C_alloc ?_ _)|(with_reducible refine Kd.C_drewN ?_ _)|(with_reducible refine Kd.C_drew ?_)));(case side4=>exact HC154_4.out);rintro e w25 ⟨rfl,hb⟩;refine ⟨_,rfl,?_⟩;have n0_:=Aside0.mk (Kd.S_below (by (with_reducible repeat (first|apply Kd.S_alloc|apply Kd.S_drewN|apply Kd.S_drew));exact HO_153005.out) hb);have n1_:=Aside0.mk (blk_below (g:=gb151) (o:=.cells #[.bool x152000_1,.bool x152001_1,.int .i64 x152002_1,.int .i64 x152003_1,.int .i64 x152004_1,.slice none 0 0] 39 (0,0)) (by (with_reducible repeat (first|refine blk_drewN ?_ _|refine blk_drew ?_|refine blk_alloc ?_ _));exact BK151.out) hb);have n2_:=Aside0.mk (blk_below (g:=gb152) (o:=.cells #[.bool a1,.bool false,.int .i64 255,.int .i64 0,.int .i64 0,u153005] 39 (0,0)) (by (with_reducible repeat (first|refine blk_drewN ?_ _|refine blk_drew ?_|refine blk_alloc ?_ _));exact BK152.out) hb);have n3_:=Aside0.mk (below_step (by repeat (first|(with_reducible first|exact HB.out|apply below_alloc|apply pw_below_drewN|apply below_drew1|refine below_set ?_ GE151.out|refine below_set ?_ GE152.out)|exact HB.out)) hb);clear HO_153005;clear BK151;clear BK152;clear HB;have HO_153005:=n0_;have BK151:=n1_;have BK152:=n2_;have HB:=n3_;clear n0_ n1_ n2_ n3_;(try clear hb);(try clear hb2);(try clear hk);(try clear hi);have hnb26:=NB151_152.out;have hnc26:=NB152_151.out;have hcz27_0 : w25.cell? ⟨gb151,0,none⟩ = some (.bool x152000_1):=(blk_cell BK151.out 0).trans rfl;have hcz27_1 : w25.cell? ⟨gb151,1,none⟩ = some (.bool x152001_1):=(blk_cell BK151.out 1).trans rfl;have hcz27_2 : w25.cell? ⟨gb151,2,none⟩ = some (.int .i64 x152002_1):=(blk_cell BK151.out 2).trans rfl;have hcz27_3 : w25.cell? ⟨gb151,3,none⟩ = some (.int .i64 x152003_1):=(blk_cell BK151.out 3).trans rfl;have hcz27_4 : w25.cell? ⟨gb151,4,none⟩ = some (.int .i64 x152004_1):=(blk_cell BK151.out 4).trans rfl;have hcz27_5 : w25.cell? ⟨gb151,5,none⟩ = some (.slice none 0 0):=(blk_cell BK151.out 5).trans rfl;have hfz27_0:=blk_frozen BK151.out 0;have hfz27_1:=blk_frozen BK151.out 1;have hfz27_2:=blk_frozen BK151.out 2;have hfz27_3:=blk_frozen BK151.out 3;have hfz27_4:=blk_frozen BK151.out 4;have hfz27_5:=blk_frozen BK151.out 5))
      refine bodyPost_ret (results_ct rfl _ _ gb151 39 #[.bool false,.bool false,.int .i64 0,.int .i64 0,.int .i64 0,.slice none 0 0] (0,0) _ rfl (by (with_reducible repeat (first|refine blk_drewN ?_ _|refine blk_drew ?_|refine blk_alloc ?_ _));refine blk_put (cs:=#[.bool false,.bool false,.int .i64 0,.int .i64 0,.int .i64 0,.slice none 0 0]) ?_ 5 _ rfl;(with_reducible repeat (first|refine blk_drewN ?_ _|refine blk_drew ?_|refine blk_alloc ?_ _));refine blk_put (cs:=#[.bool false,.bool false,.int .i64 0,.int .i64 0,.int .i64 x152004_1,.slice none 0 0]) ?_ 4 _ rfl;(with_reducible repeat (first|refine blk_drewN ?_ _|refine blk_drew ?_|refine blk_alloc ?_ _));refine blk_put (cs:=#[.bool false,.bool false,.int .i64 0,.int .i64 x152003_1,.int .i64 x152004_1,.slice none 0 0]) ?_ 3 _ rfl;(with_reducible repeat (first|refine blk_drewN ?_ _|refine blk_drew ?_|refine blk_alloc ?_ _));refine blk_put (cs:=#[.bool false,.bool false,.int .i64 x152002_1,.int .i64 x152003_1,.int .i64 x152004_1,.slice none 0 0]) ?_ 2 _ rfl;(with_reducible repeat (first|refine blk_drewN ?_ _|refine blk_drew ?_|refine blk_alloc ?_ _));refine blk_put (cs:=#[.bool false,.bool x152001_1,.int .i64 x152002_1,.int .i64 x152003_1,.int .i64 x152004_1,.slice none 0 0]) ?_ 1 _ rfl;(with_reducible repeat (first|refine blk_drewN ?_ _|refine blk_drew ?_|refine blk_alloc ?_ _));refine blk_put (cs:=#[.bool x152000_1,.bool x152001_1,.int .i64 x152002_1,.int .i64 x152003_1,.int .i64 x152004_1,.slice none 0 0]) ?_ 0 _ rfl;(with_reducible repeat (first|refine blk_drewN ?_ _|refine blk_drew ?_|refine blk_alloc ?_ _));exact BK151.out) Try.underlying39 rfl (by kernel_rfl)) rfl ?_
      exact ⟨_,by first|rfl|(simp [errW_none,errW_some] <;> rfl)|(simp [*,errW_none,errW_some] <;> rfl),by first|exact Kd.S_nil _ _ _ _ _|exact Kd.N_nil _ _ _ _ _|exact Kd.V_nil _ _ _ _ _|exact Kd.Q_nil _ _ _ _ _|exact Kd.R_nil _ _ _ _ _,by repeat (first|(with_reducible first|exact HB.out|apply below_alloc|apply pw_below_drewN|apply below_drew1|refine below_set ?_ GE151.out|refine below_set ?_ GE152.out)|exact HB.out)⟩
    ·rw [if_neg c8] at H
     exact absurd H (by simp)
   ·rw [if_neg c7] at H
    have c7b0 : decide (x7_1 < (l0.length : Int))=false:=decide_eq_false c7
    clear c7
    replace H:=Option.bind_eq_some_iff.mp H
    obtain ⟨t153,A280,H⟩:=H
    replace H : (if t153=true then (some (a1,false,255,0,0,x153005_1,true)) else (some (false,false,0,0,0,([] : List (S57)),false)))=some (r1,r2,r3,r4,r5,r6,r7):=H
    have A28:=Aside0.mk A280
    clear A280
    by_cases c29 : t153=true
    ·subst c29
     have H1 : (some (a1,false,255,0,0,x153005_1,true))=some (r1,r2,r3,r4,r5,r6,r7):=by rw [if_pos rfl] at H;exact H
     clear H
     have H:=H1
     clear H1
     simp only [Option.some.injEq,Prod.mk.injEq] at H
     obtain ⟨rfl,rfl,rfl,rfl,rfl,rfl,rfl⟩:=H
     have hnb30:=NB152_151.out
     have hnc30:=NB151_152.out
     have hcz31_0 : wr.cell? ⟨gb152,0,none⟩ = some (.bool a1):=(blk_cell BK152.out 0).trans rfl
     have hcz31_1 : wr.cell? ⟨gb152,1,none⟩ = some (.bool false):=(blk_cell BK152.out 1).trans rfl
     have hcz31_2 : wr.cell? ⟨gb152,2,none⟩ = some (.int .i64 255):=(blk_cell BK152.out 2).trans rfl
     have hcz31_3 : wr.cell? ⟨gb152,3,none⟩ = some (.int .i64 0):=(blk_cell BK152.out 3).trans rfl
     have hcz31_4 : wr.cell? ⟨gb152,4,none⟩ = some (.int .i64 0):=(blk_cell BK152.out 4).trans rfl
     have hcz31_5 : wr.cell? ⟨gb152,5,none⟩ = some (u153005):=(blk_cell BK152.out 5).trans rfl
     have hfz31_0:=blk_frozen BK152.out 0
     have hfz31_1:=blk_frozen BK152.out 1
     have hfz31_2:=blk_frozen BK152.out 2
     have hfz31_3:=blk_frozen BK152.out 3
     have hfz31_4:=blk_frozen BK152.out 4
     have hfz31_5:=blk_frozen BK152.out 5
     obtain ⟨Ao32,co32,eo32⟩:=Kd.S_slice HO_153005.out
     subst eo32
     go_wp2_with (first|((with_reducible refine gate_callee (f:=62) rfl ?_);refine goesL_ (some 39) rfl rfl Try.func62 (by kernel_rfl) rfl #[.agg #[.bool a1,.bool false,.int .i64 255,.int .i64 0,.int .i64 0,.slice Ao32 x153005_1.length co32]] rfl (by (try simp only [List.map_toArray,List.map_cons,List.map_nil]);first|done|rfl|(simp only [List.length_drop,List.length_take];rfl)) ?_;(with_reducible refine (spec_BatchValid.calls k1 a1 false 255 0 0 _ _ x153005_1 true _ ?side1 ?side2 A28.out).mono ?_);(case side1=>repeat (first|exact (Kd.S_reads' HO_153005.out).2.2|(with_reducible refine Kd.C_alloc ?_ _)|(with_reducible refine Kd.C_drewN ?_ _)|(with_reducible refine Kd.C_drew ?_)));(case side2=>exact (Kd.S_reads' HO_153005.out).2.1);rintro e w33 ⟨rfl,hb⟩;refine ⟨_,rfl,?_⟩;have n0_:=Aside0.mk (Kd.S_below (by (with_reducible repeat (first|apply Kd.S_alloc|apply Kd.S_drewN|apply Kd.S_drew));exact HO_153005.out) hb);have n1_:=Aside0.mk (blk_below (g:=gb151) (o:=.cells #[.bool x152000_1,.bool x152001_1,.int .i64 x152002_1,.int .i64 x152003_1,.int .i64 x152004_1,.slice none 0 0] 39 (0,0)) (by (with_reducible repeat (first|refine blk_drewN ?_ _|refine blk_drew ?_|refine blk_alloc ?_ _));exact BK151.out) hb);have n2_:=Aside0.mk (blk_below (g:=gb152) (o:=.cells #[.bool a1,.bool false,.int .i64 255,.int .i64 0,.int .i64 0,.slice Ao32 x153005_1.length co32] 39 (0,0)) (by (with_reducible repeat (first|refine blk_drewN ?_ _|refine blk_drew ?_|refine blk_alloc ?_ _));exact BK152.out) hb);have n3_:=Aside0.mk (below_step (by repeat (first|(with_reducible first|exact HB.out|apply below_alloc|apply pw_below_drewN|apply below_drew1|refine below_set ?_ GE151.out|refine below_set ?_ GE152.out)|exact HB.out)) hb);clear HO_153005;clear BK151;clear BK152;clear HB;have HO_153005:=n0_;have BK151:=n1_;have BK152:=n2_;have HB:=n3_;clear n0_ n1_ n2_ n3_;(try clear hb);(try clear hb2);(try clear hk);(try clear hi);have hcz34_0 : w33.cell? ⟨gb152,0,none⟩ = some (.bool a1):=(blk_cell BK152.out 0).trans rfl;have hcz34_1 : w33.cell? ⟨gb152,1,none⟩ = some (.bool false):=(blk_cell BK152.out 1).trans rfl;have hcz34_2 : w33.cell? ⟨gb152,2,none⟩ = some (.int .i64 255):=(blk_cell BK152.out 2).trans rfl;have hcz34_3 : w33.cell? ⟨gb152,3,none⟩ = some (.int .i64 0):=(blk_cell BK152.out 3).trans rfl;have hcz34_4 : w33.cell? ⟨gb152,4,none⟩ = some (.int .i64 0):=(blk_cell BK152.out 4).trans rfl;have hcz34_5 : w33.cell? ⟨gb152,5,none⟩ = some (.slice Ao32 x153005_1.length co32):=(blk_cell BK152.out 5).trans rfl;have hfz34_0:=blk_frozen BK152.out 0;have hfz34_1:=blk_frozen BK152.out 1;have hfz34_2:=blk_frozen BK152.out 2;have hfz34_3:=blk_frozen BK152.out 3;have hfz34_4:=blk_frozen BK152.out 4;have hfz34_5:=blk_frozen BK152.out 5;have hcz35_0 : w33.cell? ⟨gb151,0,none⟩ = some (.bool x152000_1):=(blk_cell BK151.out 0).trans rfl;have hcz35_1 : w33.cell? ⟨gb151,1,none⟩ = some (.bool x152001_1):=(blk_cell BK151.out 1).trans rfl;have hcz35_2 : w33.cell? ⟨gb151,2,none⟩ = some (.int .i64 x152002_1):=(blk_cell BK151.out 2).trans rfl;have hcz35_3 : w33.cell? ⟨gb151,3,none⟩ = some (.int .i64 x152003_1):=(blk_cell BK151.out 3).trans rfl;have hcz35_4 : w33.cell? ⟨gb151,4,none⟩ = some (.int .i64 x152004_1):=(blk_cell BK151.out 4).trans rfl;have hcz35_5 : w33.cell? ⟨gb151,5,none⟩ = some (.slice none 0 0):=(blk_cell BK151.out 5).trans rfl;have hfz35_0:=blk_frozen BK151.out 0;have hfz35_1:=blk_frozen BK151.out 1;have hfz35_2:=blk_frozen BK151.out 2;have hfz35_3:=blk_frozen BK151.out 3;have hfz35_4:=blk_frozen BK151.out 4;have hfz35_5:=blk_frozen BK151.out 5))
     refine bodyPost_ret (results_ct rfl _ _ gb151 39 #[.bool a1,.bool false,.int .i64 255,.int .i64 0,.int .i64 0,.slice Ao32 x153005_1.length co32] (0,0) _ rfl (by (with_reducible repeat (first|refine blk_drewN ?_ _|refine blk_drew ?_|refine blk_alloc ?_ _));refine blk_put (cs:=#[.bool a1,.bool false,.int .i64 255,.int .i64 0,.int .i64 0,.slice none 0 0]) ?_ 5 _ rfl;(with_reducible repeat (first|refine blk_drewN ?_ _|refine blk_drew ?_|refine blk_alloc ?_ _));refine blk_put (cs:=#[.bool a1,.bool false,.int .i64 255,.int .i64 0,.int .i64 x152004_1,.slice none 0 0]) ?_ 4 _ rfl;(with_reducible repeat (first|refine blk_drewN ?_ _|refine blk_drew ?_|refine blk_alloc ?_ _));refine blk_put (cs:=#[.bool a1,.bool false,.int .i64 255,.int .i64 x152003_1,.int .i64 x152004_1,.slice none 0 0]) ?_ 3 _ rfl;(with_reducible repeat (first|refine blk_drewN ?_ _|refine blk_drew ?_|refine blk_alloc ?_ _));refine blk_put (cs:=#[.bool a1,.bool false,.int .i64 x152002_1,.int .i64 x152003_1,.int .i64 x152004_1,.slice none 0 0]) ?_ 2 _ rfl;(with_reducible repeat (first|refine blk_drewN ?_ _|refine blk_drew ?_|refine blk_alloc ?_ _));refine blk_put (cs:=#[.bool a1,.bool x152001_1,.int .i64 x152002_1,.int .i64 x152003_1,.int .i64 x152004_1,.slice none 0 0]) ?_ 1 _ rfl;(with_reducible repeat (first|refine blk_drewN ?_ _|refine blk_drew ?_|refine blk_alloc ?_ _));refine blk_put (cs:=#[.bool x152000_1,.bool x152001_1,.int .i64 x152002_1,.int .i64 x152003_1,.int .i64 x152004_1,.slice none 0 0]) ?_ 0 _ rfl;(with_reducible repeat (first|refine blk_drewN ?_ _|refine blk_drew ?_|refine blk_alloc ?_ _));exact BK151.out) Try.underlying39 rfl (by kernel_rfl)) rfl ?_
     exact ⟨_,by first|rfl|(simp [errW_none,errW_some] <;> rfl)|(simp [*,errW_none,errW_some] <;> rfl),by (with_reducible repeat (first|apply Kd.S_alloc|apply Kd.S_drewN|apply Kd.S_drew));exact Kd.S_mono (Kd.S_far (p:=⟨gb151,5,none⟩) (Kd.S_far (p:=⟨gb151,4,none⟩) (Kd.S_far (p:=⟨gb151,3,none⟩) (Kd.S_far (p:=⟨gb151,2,none⟩) (Kd.S_far (p:=⟨gb151,1,none⟩) (Kd.S_far (p:=⟨gb151,0,none⟩) (Kd.S_types HO_153005.out BK151.out (by decide)) (fun _ hk=>hk.2) (.bool a1)) (fun _ hk=>hk.2) (.bool false)) (fun _ hk=>hk.2) (.int .i64 255)) (fun _ hk=>hk.2) (.int .i64 0)) (fun _ hk=>hk.2) (.int .i64 0)) (fun _ hk=>hk.2) (.slice Ao32 x153005_1.length co32)) (fun _ hk=>trivial),by repeat (first|(with_reducible first|exact HB.out|apply below_alloc|apply pw_below_drewN|apply below_drew1|refine below_set ?_ GE151.out|refine below_set ?_ GE152.out)|exact HB.out)⟩
    ·replace c29:=Bool.eq_false_iff.mpr c29
     subst c29
     have H1 : (some (false,false,0,0,0,([] : List (S57)),false))=some (r1,r2,r3,r4,r5,r6,r7):=by rw [if_neg (show ¬ (false=true) by decide)] at H;exact H
     clear H
     have H:=H1
     clear H1
     simp only [Option.some.injEq,Prod.mk.injEq] at H
     obtain ⟨rfl,rfl,rfl,rfl,rfl,rfl,rfl⟩:=H
     have hnb36:=NB152_151.out
     have hnc36:=NB151_152.out
     have hcz37_0 : wr.cell? ⟨gb152,0,none⟩ = some (.bool a1):=(blk_cell BK152.out 0).trans rfl
     have hcz37_1 : wr.cell? ⟨gb152,1,none⟩ = some (.bool false):=(blk_cell BK152.out 1).trans rfl
     have hcz37_2 : wr.cell? ⟨gb152,2,none⟩ = some (.int .i64 255):=(blk_cell BK152.out 2).trans rfl
     have hcz37_3 : wr.cell? ⟨gb152,3,none⟩ = some (.int .i64 0):=(blk_cell BK152.out 3).trans rfl
     have hcz37_4 : wr.cell? ⟨gb152,4,none⟩ = some (.int .i64 0):=(blk_cell BK152.out 4).trans rfl
     have hcz37_5 : wr.cell? ⟨gb152,5,none⟩ = some (u153005):=(blk_cell BK152.out 5).trans rfl
     have hfz37_0:=blk_frozen BK152.out 0
     have hfz37_1:=blk_frozen BK152.out 1
     have hfz37_2:=blk_frozen BK152.out 2
     have hfz37_3:=blk_frozen BK152.out 3
     have hfz37_4:=blk_frozen BK152.out 4
     have hfz37_5:=blk_frozen BK152.out 5
     obtain ⟨Ao38,co38,eo38⟩:=Kd.S_slice HO_153005.out
     subst eo38
     go_wp2_with (first|((with_reducible refine gate_callee (f:=62) rfl ?_);refine goesL_ (some 39) rfl rfl Try.func62 (by kernel_rfl) rfl #[.agg #[.bool a1,.bool false,.int .i64 255,.int .i64 0,.int .i64 0,.slice Ao38 x153005_1.length co38]] rfl (by (try simp only [List.map_toArray,List.map_cons,List.map_nil]);first|done|rfl|(simp only [List.length_drop,List.length_take];rfl)) ?_;(with_reducible refine (spec_BatchValid.calls k1 a1 false 255 0 0 _ _ x153005_1 false _ ?side1 ?side2 A28.out).mono ?_);(case side1=>repeat (first|exact (Kd.S_reads' HO_153005.out).2.2|(with_reducible refine Kd.C_alloc ?_ _)|(with_reducible refine Kd.C_drewN ?_ _)|(with_reducible refine Kd.C_drew ?_)));(case side2=>exact (Kd.S_reads' HO_153005.out).2.1);rintro e w39 ⟨rfl,hb⟩;refine ⟨_,rfl,?_⟩;have n0_:=Aside0.mk (Kd.S_below (by (with_reducible repeat (first|apply Kd.S_alloc|apply Kd.S_drewN|apply Kd.S_drew));exact HO_153005.out) hb);have n1_:=Aside0.mk (blk_below (g:=gb151) (o:=.cells #[.bool x152000_1,.bool x152001_1,.int .i64 x152002_1,.int .i64 x152003_1,.int .i64 x152004_1,.slice none 0 0] 39 (0,0)) (by (with_reducible repeat (first|refine blk_drewN ?_ _|refine blk_drew ?_|refine blk_alloc ?_ _));exact BK151.out) hb);have n2_:=Aside0.mk (blk_below (g:=gb152) (o:=.cells #[.bool a1,.bool false,.int .i64 255,.int .i64 0,.int .i64 0,.slice Ao38 x153005_1.length co38] 39 (0,0)) (by (with_reducible repeat (first|refine blk_drewN ?_ _|refine blk_drew ?_|refine blk_alloc ?_ _));exact BK152.out) hb);have n3_:=Aside0.mk (below_step (by repeat (first|(with_reducible first|exact HB.out|apply below_alloc|apply pw_below_drewN|apply below_drew1|refine below_set ?_ GE151.out|refine below_set ?_ GE152.out)|exact HB.out)) hb);clear HO_153005;clear BK151;clear BK152;clear HB;have HO_153005:=n0_;have BK151:=n1_;have BK152:=n2_;have HB:=n3_;clear n0_ n1_ n2_ n3_;(try clear hb);(try clear hb2);(try clear hk);(try clear hi);have hcz40_0 : w39.cell? ⟨gb151,0,none⟩ = some (.bool x152000_1):=(blk_cell BK151.out 0).trans rfl;have hcz40_1 : w39.cell? ⟨gb151,1,none⟩ = some (.bool x152001_1):=(blk_cell BK151.out 1).trans rfl;have hcz40_2 : w39.cell? ⟨gb151,2,none⟩ = some (.int .i64 x152002_1):=(blk_cell BK151.out 2).trans rfl;have hcz40_3 : w39.cell? ⟨gb151,3,none⟩ = some (.int .i64 x152003_1):=(blk_cell BK151.out 3).trans rfl;have hcz40_4 : w39.cell? ⟨gb151,4,none⟩ = some (.int .i64 x152004_1):=(blk_cell BK151.out 4).trans rfl;have hcz40_5 : w39.cell? ⟨gb151,5,none⟩ = some (.slice none 0 0):=(blk_cell BK151.out 5).trans rfl;have hfz40_0:=blk_frozen BK151.out 0;have hfz40_1:=blk_frozen BK151.out 1;have hfz40_2:=blk_frozen BK151.out 2;have hfz40_3:=blk_frozen BK151.out 3;have hfz40_4:=blk_frozen BK151.out 4;have hfz40_5:=blk_frozen BK151.out 5))
     refine bodyPost_ret (results_ct rfl _ _ gb151 39 #[.bool false,.bool false,.int .i64 0,.int .i64 0,.int .i64 0,.slice none 0 0] (0,0) _ rfl (by (with_reducible repeat (first|refine blk_drewN ?_ _|refine blk_drew ?_|refine blk_alloc ?_ _));refine blk_put (cs:=#[.bool false,.bool false,.int .i64 0,.int .i64 0,.int .i64 0,.slice none 0 0]) ?_ 5 _ rfl;(with_reducible repeat (first|refine blk_drewN ?_ _|refine blk_drew ?_|refine blk_alloc ?_ _));refine blk_put (cs:=#[.bool false,.bool false,.int .i64 0,.int .i64 0,.int .i64 x152004_1,.slice none 0 0]) ?_ 4 _ rfl;(with_reducible repeat (first|refine blk_drewN ?_ _|refine blk_drew ?_|refine blk_alloc ?_ _));refine blk_put (cs:=#[.bool false,.bool false,.int .i64 0,.int .i64 x152003_1,.int .i64 x152004_1,.slice none 0 0]) ?_ 3 _ rfl;(with_reducible repeat (first|refine blk_drewN ?_ _|refine blk_drew ?_|refine blk_alloc ?_ _));refine blk_put (cs:=#[.bool false,.bool false,.int .i64 x152002_1,.int .i64 x152003_1,.int .i64 x152004_1,.slice none 0 0]) ?_ 2 _ rfl;(with_reducible repeat (first|refine blk_drewN ?_ _|refine blk_drew ?_|refine blk_alloc ?_ _));refine blk_put (cs:=#[.bool false,.bool x152001_1,.int .i64 x152002_1,.int .i64 x152003_1,.int .i64 x152004_1,.slice none 0 0]) ?_ 1 _ rfl;(with_reducible repeat (first|refine blk_drewN ?_ _|refine blk_drew ?_|refine blk_alloc ?_ _));refine blk_put (cs:=#[.bool x152000_1,.bool x152001_1,.int .i64 x152002_1,.int .i64 x152003_1,.int .i64 x152004_1,.slice none 0 0]) ?_ 0 _ rfl;(with_reducible repeat (first|refine blk_drewN ?_ _|refine blk_drew ?_|refine blk_alloc ?_ _));exact BK151.out) Try.underlying39 rfl (by kernel_rfl)) rfl ?_
     exact ⟨_,by first|rfl|(simp [errW_none,errW_some] <;> rfl)|(simp [*,errW_none,errW_some] <;> rfl),by first|exact Kd.S_nil _ _ _ _ _|exact Kd.N_nil _ _ _ _ _|exact Kd.V_nil _ _ _ _ _|exact Kd.Q_nil _ _ _ _ _|exact Kd.R_nil _ _ _ _ _,by repeat (first|(with_reducible first|exact HB.out|apply below_alloc|apply pw_below_drewN|apply below_drew1|refine below_set ?_ GE151.out|refine below_set ?_ GE152.out)|exact HB.out)⟩

end Go.Proofs.Ytmpnedpokdaejaa.QFnExactOldTurn
