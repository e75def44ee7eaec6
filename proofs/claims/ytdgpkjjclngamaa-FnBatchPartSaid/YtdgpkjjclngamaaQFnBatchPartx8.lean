-- Written by this session's program wip/ownprint.py.
import Derived.Test.YtdgpkjjclngamaaQFnBatchPartx0
import Derived.Test.YtdgpkjjclngamaaQFnBatchPartx6
import Derived.Test.YtdgpkjjclngamaaQFnBatchPartx7
namespace Go.Proofs.Ytdgpkjjclngamaa.QFnBatchPart
open Go.RowKit Go.Proofs.YtdgpkjjclngamaaW.PrintWords Go.Proofs.YtdgpkjjclngamaaW.PrintLast Go.Proofs.YtdgpkjjclngamaaW.PrintMore
attribute [local go_sem] max2_int min2_int max_two min_two max_three min_three max_four min_four   -- for this text's walks alone
set_option linter.unusedVariables false
set_option linter.unusedSimpArgs false

/-! ### spec_BatchValid: function 41 -/
def spec_BatchValid.j0 : Nat→Bool→Bool→Bool→Int→Int→Int→List (S27)→Option (Bool)
 | 0,_,_,_,_,_,_,_=>none
 | k + 1,x24,x261000,x261001,x261002,x261003,x261004,x261005=>if x24=true then (some false) else (if x261002=255 then (if x261003=0 then (if x261004=0 then (some (!x261001)) else (some false)) else (some false)) else (if x261001=true then (some ((x261005.length : Int) == 1)) else (some true)))
def spec_BatchValid.f (k : Nat) (a0_0 : Bool) (a0_1 : Bool) (a0_2 : Int) (a0_3 : Int) (a0_4 : Int) (l0_5 : List (S27)) : Option (Bool):=(spec_l5Records.f k l0_5).bind fun t261=>(if t261=true then ((spec_l6In.f a0_2 0 255).bind fun t262=>(if t262=true then ((spec_l6In.f a0_3 0 99).bind fun t263=>(if t263=true then ((spec_l6In.f a0_4 0 9999).bind fun t264=>(spec_BatchValid.j0 k (!t264) a0_0 a0_1 a0_2 a0_3 a0_4 l0_5)) else (spec_BatchValid.j0 k true a0_0 a0_1 a0_2 a0_3 a0_4 l0_5))) else (spec_BatchValid.j0 k true a0_0 a0_1 a0_2 a0_3 a0_4 l0_5))) else (spec_BatchValid.j0 k true a0_0 a0_1 a0_2 a0_3 a0_4 l0_5))
theorem spec_BatchValid.mono_l : ∀ k,(∀ y0 y1 y2 y3 y4 y5 y6,LeO (spec_BatchValid.j0 k y0 y1 y2 y3 y4 y5 y6) (spec_BatchValid.j0 (k + 1) y0 y1 y2 y3 y4 y5 y6))
 | 0=>fun _ _ _ _ _ _ _ r h=>by simp [spec_BatchValid.j0] at h
 | k + 1=>by
  have ih0:=spec_BatchValid.mono_l k
  ·intro y0 y1 y2 y3 y4 y5 y6
   unfold spec_BatchValid.j0
   repeat' first
   | (with_reducible exact ih0 _ _ _ _ _ _ _)
   | (with_reducible exact spec_l5Records.mono _ _)
   | (with_reducible exact LeO.refl _)
   | (with_reducible exact LeO.none _)
   | (with_reducible refine LeO.ite ?_ ?_)
   | (with_reducible refine LeO.bind ?_ (fun _=>?_))
   | exact ih0 _ _ _ _ _ _ _
   | exact spec_l5Records.mono _ _
   | exact LeO.none _
   | refine LeO.ite ?_ ?_
   | refine LeO.bind ?_ (fun _=>?_)
theorem spec_BatchValid.mono : ∀ a0 a1 a2 a3 a4 a5 k,LeO (spec_BatchValid.f k a0 a1 a2 a3 a4 a5) (spec_BatchValid.f (k + 1) a0 a1 a2 a3 a4 a5):=by
 intro a0 a1 a2 a3 a4 a5 k
 have ih0:=spec_BatchValid.mono_l k
 unfold spec_BatchValid.f
 repeat' first
   | (with_reducible exact ih0 _ _ _ _ _ _ _)
   | (with_reducible exact spec_l5Records.mono _ _)
   | (with_reducible exact LeO.refl _)
   | (with_reducible exact LeO.none _)
   | (with_reducible refine LeO.ite ?_ ?_)
   | (with_reducible refine LeO.bind ?_ (fun _=>?_))
   | exact ih0 _ _ _ _ _ _ _
   | exact spec_l5Records.mono _ _
   | exact LeO.none _
   | refine LeO.ite ?_ ?_
   | refine LeO.bind ?_ (fun _=>?_)
set_option maxHeartbeats 8000000 in
set_option maxRecDepth 100000 in
theorem spec_BatchValid.calls (k : Nat) (a0_0 : Bool) (a0_1 : Bool) (a0_2 : Int) (a0_3 : Int) (a0_4 : Int) (A0_5 : Option Addr) (c0_5 : Nat) (l0_5 : List (S27)) (r : Bool) (w : World) (hr0_5 : Kd.C k27 w A0_5 l0_5.length l0_5) (hc0_5 : l0_5.length ≤ c0_5) (h : spec_BatchValid.f k a0_0 a0_1 a0_2 a0_3 a0_4 l0_5=some r) :
  Calls Try.prog 41 #[.agg #[.bool a0_0,.bool a0_1,.int .i64 a0_2,.int .i64 a0_3,.int .i64 a0_4,.slice A0_5 l0_5.length c0_5]] w fun e w'=>e = .returned (.bool r)∧Below w.heap.size w w':=by
 have hu54:=Try.underlying54
 have HR0_5:=Aside0.mk hr0_5
 have HC0_5:=Aside0.mk hc0_5
 clear hr0_5 hc0_5
 have HB:=Aside0.mk (Below.refl w.heap.size w)
 have H : ((spec_l5Records.f k l0_5).bind fun t261=>(if t261=true then ((spec_l6In.f a0_2 0 255).bind fun t262=>(if t262=true then ((spec_l6In.f a0_3 0 99).bind fun t263=>(if t263=true then ((spec_l6In.f a0_4 0 9999).bind fun t264=>(spec_BatchValid.j0 k (!t264) a0_0 a0_1 a0_2 a0_3 a0_4 l0_5)) else (spec_BatchValid.j0 k true a0_0 a0_1 a0_2 a0_3 a0_4 l0_5))) else (spec_BatchValid.j0 k true a0_0 a0_1 a0_2 a0_3 a0_4 l0_5))) else (spec_BatchValid.j0 k true a0_0 a0_1 a0_2 a0_3 a0_4 l0_5)))=some r:=h
 clear h
 have HC2:=Aside0.mk H
 clear H
 go_enter Try.func41,Try.ntmps41
 go_upto_region 1 with (first|((with_reducible refine gate_dst (N:=1) rfl ?_);(try (refine gate_guard (by rfl) ?_;dsimp only));refine box_event ?hg (N:=1) ?hd (cs:=#[.bool a0_0,.bool a0_1,.int .i64 a0_2,.int .i64 a0_3,.int .i64 a0_4,.slice A0_5 l0_5.length c0_5]) (t:=54) ?hr ?_;(case hd=>rfl);(case hg=>rfl);(case hr=>first|(go_simp;done)|(go_simp;rfl));intro gb260 hg w3 hbox hb;have n0_:=Aside0.mk (below_step (by repeat (first|(with_reducible first|exact HB.out|apply below_alloc|apply pw_below_drewN|apply below_drew1)|exact HB.out)) hb);have n1_:=Aside0.mk (hbox);have n2_:=Aside0.mk ((by rw [hg];exact (below_size (by repeat (first|(with_reducible first|exact HB.out|apply below_alloc|apply pw_below_drewN|apply below_drew1)|exact HB.out))) : w.heap.size ≤ gb260));have n3_:=Aside0.mk ((by rw [hg];exact (below_size (by repeat (first|(with_reducible first|exact HB.out|apply below_alloc|apply pw_below_drewN|apply below_drew1)|exact HB.out))) : w.heap.size ≤ gb260));clear HB;have HB:=n0_;have BK260:=n1_;have GW260:=n2_;have GE260:=n3_;clear n0_ n1_ n2_ n3_;clear hb hbox hg))
 (try simp only [Act.put,List.setIfInBounds_toArray,List.set_cons_zero,List.set_cons_succ])
 go_cut [24] (fun v24 wc=>∃ (kq : Nat) (x24_1 : Bool),v24 = .bool x24_1∧Aside0 (spec_BatchValid.j0 kq x24_1 a0_0 a0_1 a0_2 a0_3 a0_4 l0_5=some r)∧Aside0 (kq ≤ k)∧Aside0 (wc.heap[gb260]? = some (.cells #[.bool a0_0,.bool a0_1,.int .i64 a0_2,.int .i64 a0_3,.int .i64 a0_4,(.slice A0_5 l0_5.length c0_5)] 54 (0,0)))∧Aside0 (Below w.heap.size w wc))
 case first =>
  have H:=HC2.out
  clear HC2
  replace H:=Option.bind_eq_some_iff.mp H
  obtain ⟨t261,A40,H⟩:=H
  replace H : (if t261=true then ((spec_l6In.f a0_2 0 255).bind fun t262=>(if t262=true then ((spec_l6In.f a0_3 0 99).bind fun t263=>(if t263=true then ((spec_l6In.f a0_4 0 9999).bind fun t264=>(spec_BatchValid.j0 k (!t264) a0_0 a0_1 a0_2 a0_3 a0_4 l0_5)) else (spec_BatchValid.j0 k true a0_0 a0_1 a0_2 a0_3 a0_4 l0_5))) else (spec_BatchValid.j0 k true a0_0 a0_1 a0_2 a0_3 a0_4 l0_5))) else (spec_BatchValid.j0 k true a0_0 a0_1 a0_2 a0_3 a0_4 l0_5))=some r:=H
  have A4:=Aside0.mk A40
  clear A40
  by_cases c5 : t261=true
  ·subst c5
   have H1 : ((spec_l6In.f a0_2 0 255).bind fun t262=>(if t262=true then ((spec_l6In.f a0_3 0 99).bind fun t263=>(if t263=true then ((spec_l6In.f a0_4 0 9999).bind fun t264=>(spec_BatchValid.j0 k (!t264) a0_0 a0_1 a0_2 a0_3 a0_4 l0_5)) else (spec_BatchValid.j0 k true a0_0 a0_1 a0_2 a0_3 a0_4 l0_5))) else (spec_BatchValid.j0 k true a0_0 a0_1 a0_2 a0_3 a0_4 l0_5)))=some r:=by rw [if_pos rfl] at H;exact H
   clear H
   have H:=H1
   clear H1
   replace H:=Option.bind_eq_some_iff.mp H
   obtain ⟨t262,A60,H⟩:=H
   replace H : (if t262=true then ((spec_l6In.f a0_3 0 99).bind fun t263=>(if t263=true then ((spec_l6In.f a0_4 0 9999).bind fun t264=>(spec_BatchValid.j0 k (!t264) a0_0 a0_1 a0_2 a0_3 a0_4 l0_5)) else (spec_BatchValid.j0 k true a0_0 a0_1 a0_2 a0_3 a0_4 l0_5))) else (spec_BatchValid.j0 k true a0_0 a0_1 a0_2 a0_3 a0_4 l0_5))=some r:=H
   have A6:=Aside0.mk A60
   clear A60
   by_cases c7 : t262=true
   ·subst c7
    have H1 : ((spec_l6In.f a0_3 0 99).bind fun t263=>(if t263=true then ((spec_l6In.f a0_4 0 9999).bind fun t264=>(spec_BatchValid.j0 k (!t264) a0_0 a0_1 a0_2 a0_3 a0_4 l0_5)) else (spec_BatchValid.j0 k true a0_0 a0_1 a0_2 a0_3 a0_4 l0_5)))=some r:=by rw [if_pos rfl] at H;exact H
    clear H
    have H:=H1
    clear H1
    replace H:=Option.bind_eq_some_iff.mp H
    obtain ⟨t263,A80,H⟩:=H
    replace H : (if t263=true then ((spec_l6In.f a0_4 0 9999).bind fun t264=>(spec_BatchValid.j0 k (!t264) a0_0 a0_1 a0_2 a0_3 a0_4 l0_5)) else (spec_BatchValid.j0 k true a0_0 a0_1 a0_2 a0_3 a0_4 l0_5))=some r:=H
    have A8:=Aside0.mk A80
    clear A80
    by_cases c9 : t263=true
    ·subst c9
     have H1 : ((spec_l6In.f a0_4 0 9999).bind fun t264=>(spec_BatchValid.j0 k (!t264) a0_0 a0_1 a0_2 a0_3 a0_4 l0_5))=some r:=by rw [if_pos rfl] at H;exact H
     clear H
     have H:=H1
     clear H1
     replace H:=Option.bind_eq_some_iff.mp H
     obtain ⟨t264,A100,H⟩:=H
     replace H : (spec_BatchValid.j0 k (!t264) a0_0 a0_1 a0_2 a0_3 a0_4 l0_5)=some r:=H
     have A10:=Aside0.mk A100
     clear A100
     have H':=Aside0.mk H
     clear H
     have hcz11_0 : w3.cell? ⟨gb260,0,none⟩ = some (.bool a0_0):=(blk_cell BK260.out 0).trans rfl
     have hcz11_1 : w3.cell? ⟨gb260,1,none⟩ = some (.bool a0_1):=(blk_cell BK260.out 1).trans rfl
     have hcz11_2 : w3.cell? ⟨gb260,2,none⟩ = some (.int .i64 a0_2):=(blk_cell BK260.out 2).trans rfl
     have hcz11_3 : w3.cell? ⟨gb260,3,none⟩ = some (.int .i64 a0_3):=(blk_cell BK260.out 3).trans rfl
     have hcz11_4 : w3.cell? ⟨gb260,4,none⟩ = some (.int .i64 a0_4):=(blk_cell BK260.out 4).trans rfl
     have hcz11_5 : w3.cell? ⟨gb260,5,none⟩ = some (.slice A0_5 l0_5.length c0_5):=(blk_cell BK260.out 5).trans rfl
     have hfz11_0:=blk_frozen BK260.out 0
     have hfz11_1:=blk_frozen BK260.out 1
     have hfz11_2:=blk_frozen BK260.out 2
     have hfz11_3:=blk_frozen BK260.out 3
     have hfz11_4:=blk_frozen BK260.out 4
     have hfz11_5:=blk_frozen BK260.out 5
     go_wp2_with (first|((with_reducible refine gate_callee (f:=78) rfl ?_);refine goesL_ (some 5) rfl rfl Try.func78 (by kernel_rfl) rfl #[.slice A0_5 l0_5.length c0_5] rfl (by (try simp only [List.map_toArray,List.map_cons,List.map_nil]);first|done|rfl|(simp only [List.length_drop,List.length_take];rfl)) ?_;(with_reducible refine (spec_l5Records.calls k _ _ l0_5 true _ ?side1 ?side2 A4.out).mono ?_);(case side1=>repeat (first|exact (Kd.C_below HR0_5.out HB.out)|(with_reducible refine Kd.C_alloc ?_ _)|(with_reducible refine Kd.C_drewN ?_ _)|(with_reducible refine Kd.C_drew ?_)));(case side2=>exact HC0_5.out);rintro e w12 ⟨rfl,hb⟩;refine ⟨_,rfl,?_⟩;have n0_:=Aside0.mk (blk_below (g:=gb260) (o:=.cells #[.bool a0_0,.bool a0_1,.int .i64 a0_2,.int .i64 a0_3,.int .i64 a0_4,.slice A0_5 l0_5.length c0_5] 54 (0,0)) (by (with_reducible repeat (first|refine blk_drewN ?_ _|refine blk_drew ?_|refine blk_alloc ?_ _));exact BK260.out) hb);have n1_:=Aside0.mk (below_step (by repeat (first|(with_reducible first|exact HB.out|apply below_alloc|apply pw_below_drewN|apply below_drew1|refine below_set ?_ GE260.out)|exact HB.out)) hb);clear BK260;clear HB;have BK260:=n0_;have HB:=n1_;clear n0_ n1_;(try clear hb);(try clear hb2);(try clear hk);(try clear hi);have hcz13_0 : w12.cell? ⟨gb260,0,none⟩ = some (.bool a0_0):=(blk_cell BK260.out 0).trans rfl;have hcz13_1 : w12.cell? ⟨gb260,1,none⟩ = some (.bool a0_1):=(blk_cell BK260.out 1).trans rfl;have hcz13_2 : w12.cell? ⟨gb260,2,none⟩ = some (.int .i64 a0_2):=(blk_cell BK260.out 2).trans rfl;have hcz13_3 : w12.cell? ⟨gb260,3,none⟩ = some (.int .i64 a0_3):=(blk_cell BK260.out 3).trans rfl;have hcz13_4 : w12.cell? ⟨gb260,4,none⟩ = some (.int .i64 a0_4):=(blk_cell BK260.out 4).trans rfl;have hcz13_5 : w12.cell? ⟨gb260,5,none⟩ = some (.slice A0_5 l0_5.length c0_5):=(blk_cell BK260.out 5).trans rfl;have hfz13_0:=blk_frozen BK260.out 0;have hfz13_1:=blk_frozen BK260.out 1;have hfz13_2:=blk_frozen BK260.out 2;have hfz13_3:=blk_frozen BK260.out 3;have hfz13_4:=blk_frozen BK260.out 4;have hfz13_5:=blk_frozen BK260.out 5)|(go_at_call 54;(with_reducible refine (spec_l6In.calls a0_2 0 255 true _ A6.out).mono ?_);rintro e w' ⟨rfl,⟨nd,rfl⟩⟩)|(go_at_call 54;(with_reducible refine (spec_l6In.calls a0_3 0 99 true _ A8.out).mono ?_);rintro e w' ⟨rfl,⟨nd,rfl⟩⟩)|(go_at_call 54;(with_reducible refine (spec_l6In.calls a0_4 0 9999 t264 _ A10.out).mono ?_);rintro e w' ⟨rfl,⟨nd,rfl⟩⟩))
     go_meet
     case rel=>exact ⟨_,(!t264),(by first|rfl|(simp;done)|(simp [*];done)),H',⟨by first|omega|exact Nat.le_refl _⟩,⟨by (with_reducible repeat (first|refine blk_drewN ?_ _|refine blk_drew ?_|refine blk_alloc ?_ _));exact BK260.out⟩,⟨by repeat (first|(with_reducible first|exact HB.out|apply below_alloc|apply pw_below_drewN|apply below_drew1|refine below_set ?_ GE260.out)|exact HB.out)⟩⟩
    ·replace c9:=Bool.eq_false_iff.mpr c9
     subst c9
     have H1 : (spec_BatchValid.j0 k true a0_0 a0_1 a0_2 a0_3 a0_4 l0_5)=some r:=by rw [if_neg (show ¬ (false=true) by decide)] at H;exact H
     clear H
     have H:=H1
     clear H1
     have H':=Aside0.mk H
     clear H
     have hcz14_0 : w3.cell? ⟨gb260,0,none⟩ = some (.bool a0_0):=(blk_cell BK260.out 0).trans rfl
     have hcz14_1 : w3.cell? ⟨gb260,1,none⟩ = some (.bool a0_1):=(blk_cell BK260.out 1).trans rfl
     have hcz14_2 : w3.cell? ⟨gb260,2,none⟩ = some (.int .i64 a0_2):=(blk_cell BK260.out 2).trans rfl
     have hcz14_3 : w3.cell? ⟨gb260,3,none⟩ = some (.int .i64 a0_3):=(blk_cell BK260.out 3).trans rfl
     have hcz14_4 : w3.cell? ⟨gb260,4,none⟩ = some (.int .i64 a0_4):=(blk_cell BK260.out 4).trans rfl
     have hcz14_5 : w3.cell? ⟨gb260,5,none⟩ = some (.slice A0_5 l0_5.length c0_5):=(blk_cell BK260.out 5).trans rfl
     have hfz14_0:=blk_frozen BK260.out 0
     have hfz14_1:=blk_frozen BK260.out 1
     have hfz14_2:=blk_frozen BK260.out 2
     have hfz14_3:=blk_frozen BK260.out 3
     have hfz14_4:=blk_frozen BK260.out 4
     have hfz14_5:=blk_frozen BK260.out 5
     go_wp2_with (first|((with_reducible refine gate_callee (f:=78) rfl ?_);refine goesL_ (some 5) rfl rfl Try.func78 (by kernel_rfl) rfl #[.slice A0_5 l0_5.length c0_5] rfl (by (try simp only [List.map_toArray,List.map_cons,List.map_nil]);first|done|rfl|(simp only [List.length_drop,List.length_take];rfl)) ?_;(with_reducible refine (spec_l5Records.calls k _ _ l0_5 true _ ?side1 ?side2 A4.out).mono ?_);(case side1=>repeat (first|exact (Kd.C_below HR0_5.out HB.out)|(with_reducible refine Kd.C_alloc ?_ _)|(with_reducible refine Kd.C_drewN ?_ _)|(with_reducible refine Kd.C_drew ?_)));(case side2=>exact HC0_5.out);rintro e w15 ⟨rfl,hb⟩;refine ⟨_,rfl,?_⟩;have n0_:=Aside0.mk (blk_below (g:=gb260) (o:=.cells #[.bool a0_0,.bool a0_1,.int .i64 a0_2,.int .i64 a0_3,.int .i64 a0_4,.slice A0_5 l0_5.length c0_5] 54 (0,0)) (by (with_reducible repeat (first|refine blk_drewN ?_ _|refine blk_drew ?_|refine blk_alloc ?_ _));exact BK260.out) hb);have n1_:=Aside0.mk (below_step (by repeat (first|(with_reducible first|exact HB.out|apply below_alloc|apply pw_below_drewN|apply below_drew1|refine below_set ?_ GE260.out)|exact HB.out)) hb);clear BK260;clear HB;have BK260:=n0_;have HB:=n1_;clear n0_ n1_;(try clear hb);(try clear hb2);(try clear hk);(try clear hi);have hcz16_0 : w15.cell? ⟨gb260,0,none⟩ = some (.bool a0_0):=(blk_cell BK260.out 0).trans rfl;have hcz16_1 : w15.cell? ⟨gb260,1,none⟩ = some (.bool a0_1):=(blk_cell BK260.out 1).trans rfl;have hcz16_2 : w15.cell? ⟨gb260,2,none⟩ = some (.int .i64 a0_2):=(blk_cell BK260.out 2).trans rfl;have hcz16_3 : w15.cell? ⟨gb260,3,none⟩ = some (.int .i64 a0_3):=(blk_cell BK260.out 3).trans rfl;have hcz16_4 : w15.cell? ⟨gb260,4,none⟩ = some (.int .i64 a0_4):=(blk_cell BK260.out 4).trans rfl;have hcz16_5 : w15.cell? ⟨gb260,5,none⟩ = some (.slice A0_5 l0_5.length c0_5):=(blk_cell BK260.out 5).trans rfl;have hfz16_0:=blk_frozen BK260.out 0;have hfz16_1:=blk_frozen BK260.out 1;have hfz16_2:=blk_frozen BK260.out 2;have hfz16_3:=blk_frozen BK260.out 3;have hfz16_4:=blk_frozen BK260.out 4;have hfz16_5:=blk_frozen BK260.out 5)|(go_at_call 54;(with_reducible refine (spec_l6In.calls a0_2 0 255 true _ A6.out).mono ?_);rintro e w' ⟨rfl,⟨nd,rfl⟩⟩)|(go_at_call 54;(with_reducible refine (spec_l6In.calls a0_3 0 99 false _ A8.out).mono ?_);rintro e w' ⟨rfl,⟨nd,rfl⟩⟩))
     go_meet
     case rel=>exact ⟨_,(true),(by first|rfl|(simp;done)|(simp [*];done)),H',⟨by first|omega|exact Nat.le_refl _⟩,⟨by (with_reducible repeat (first|refine blk_drewN ?_ _|refine blk_drew ?_|refine blk_alloc ?_ _));exact BK260.out⟩,⟨by repeat (first|(with_reducible first|exact HB.out|apply below_alloc|apply pw_below_drewN|apply below_drew1|refine below_set ?_ GE260.out)|exact HB.out)⟩⟩
   ·replace c7:=Bool.eq_false_iff.mpr c7
    subst c7
    have H1 : (spec_BatchValid.j0 k true a0_0 a0_1 a0_2 a0_3 a0_4 l0_5)=some r:=by rw [if_neg (show ¬ (false=true) by decide)] at H;exact H
    clear H
    have H:=H1
    clear H1
    have H':=Aside0.mk H
    clear H
    have hcz17_0 : w3.cell? ⟨gb260,0,none⟩ = some (.bool a0_0):=(blk_cell BK260.out 0).trans rfl
    have hcz17_1 : w3.cell? ⟨gb260,1,none⟩ = some (.bool a0_1):=(blk_cell BK260.out 1).trans rfl
    have hcz17_2 : w3.cell? ⟨gb260,2,none⟩ = some (.int .i64 a0_2):=(blk_cell BK260.out 2).trans rfl
    have hcz17_3 : w3.cell? ⟨gb260,3,none⟩ = some (.int .i64 a0_3):=(blk_cell BK260.out 3).trans rfl
    have hcz17_4 : w3.cell? ⟨gb260,4,none⟩ = some (.int .i64 a0_4):=(blk_cell BK260.out 4).trans rfl
    have hcz17_5 : w3.cell? ⟨gb260,5,none⟩ = some (.slice A0_5 l0_5.length c0_5):=(blk_cell BK260.out 5).trans rfl
    have hfz17_0:=blk_frozen BK260.out 0
    have hfz17_1:=blk_frozen BK260.out 1
    have hfz17_2:=blk_frozen BK260.out 2
    have hfz17_3:=blk_frozen BK260.out 3
    have hfz17_4:=blk_frozen BK260.out 4
    have hfz17_5:=blk_frozen BK260.out 5
    go_wp2_with (first|((with_reducible refine gate_callee (f:=78) rfl ?_);refine goesL_ (some 5) rfl rfl Try.func78 (by kernel_rfl) rfl #[.slice A0_5 l0_5.length c0_5] rfl (by (try simp only [List.map_toArray,List.map_cons,List.map_nil]);first|done|rfl|(simp only [List.length_drop,List.length_take];rfl)) ?_;(with_reducible refine (spec_l5Records.calls k _ _ l0_5 true _ ?side1 ?side2 A4.out).mono ?_);(case side1=>repeat (first|exact (Kd.C_below HR0_5.out HB.out)|(with_reducible refine Kd.C_alloc ?_ _)|(with_reducible refine Kd.C_drewN ?_ _)|(with_reducible refine Kd.C_drew ?_)));(case side2=>exact HC0_5.out);rintro e w18 ⟨rfl,hb⟩;refine ⟨_,rfl,?_⟩;have n0_:=Aside0.mk (blk_below (g:=gb260) (o:=.cells #[.bool a0_0,.bool a0_1,.int .i64 a0_2,.int .i64 a0_3,.int .i64 a0_4,.slice A0_5 l0_5.length c0_5] 54 (0,0)) (by (with_reducible repeat (first|refine blk_drewN ?_ _|refine blk_drew ?_|refine blk_alloc ?_ _));exact BK260.out) hb);have n1_:=Aside0.mk (below_step (by repeat (first|(with_reducible first|exact HB.out|apply below_alloc|apply pw_below_drewN|apply below_drew1|refine below_set ?_ GE260.out)|exact HB.out)) hb);clear BK260;clear HB;have BK260:=n0_;have HB:=n1_;clear n0_ n1_;(try clear hb);(try clear hb2);(try clear hk);(try clear hi);have hcz19_0 : w18.cell? ⟨gb260,0,none⟩ = some (.bool a0_0):=(blk_cell BK260.out 0).trans rfl;have hcz19_1 : w18.cell? ⟨gb260,1,none⟩ = some (.bool a0_1):=(blk_cell BK260.out 1).trans rfl;have hcz19_2 : w18.cell? ⟨gb260,2,none⟩ = some (.int .i64 a0_2):=(blk_cell BK260.out 2).trans rfl;have hcz19_3 : w18.cell? ⟨gb260,3,none⟩ = some (.int .i64 a0_3):=(blk_cell BK260.out 3).trans rfl;have hcz19_4 : w18.cell? ⟨gb260,4,none⟩ = some (.int .i64 a0_4):=(blk_cell BK260.out 4).trans rfl;have hcz19_5 : w18.cell? ⟨gb260,5,none⟩ = some (.slice A0_5 l0_5.length c0_5):=(blk_cell BK260.out 5).trans rfl;have hfz19_0:=blk_frozen BK260.out 0;have hfz19_1:=blk_frozen BK260.out 1;have hfz19_2:=blk_frozen BK260.out 2;have hfz19_3:=blk_frozen BK260.out 3;have hfz19_4:=blk_frozen BK260.out 4;have hfz19_5:=blk_frozen BK260.out 5)|(go_at_call 54;(with_reducible refine (spec_l6In.calls a0_2 0 255 false _ A6.out).mono ?_);rintro e w' ⟨rfl,⟨nd,rfl⟩⟩))
    go_meet
    case rel=>exact ⟨_,(true),(by first|rfl|(simp;done)|(simp [*];done)),H',⟨by first|omega|exact Nat.le_refl _⟩,⟨by (with_reducible repeat (first|refine blk_drewN ?_ _|refine blk_drew ?_|refine blk_alloc ?_ _));exact BK260.out⟩,⟨by repeat (first|(with_reducible first|exact HB.out|apply below_alloc|apply pw_below_drewN|apply below_drew1|refine below_set ?_ GE260.out)|exact HB.out)⟩⟩
  ·replace c5:=Bool.eq_false_iff.mpr c5
   subst c5
   have H1 : (spec_BatchValid.j0 k true a0_0 a0_1 a0_2 a0_3 a0_4 l0_5)=some r:=by rw [if_neg (show ¬ (false=true) by decide)] at H;exact H
   clear H
   have H:=H1
   clear H1
   have H':=Aside0.mk H
   clear H
   have hcz20_0 : w3.cell? ⟨gb260,0,none⟩ = some (.bool a0_0):=(blk_cell BK260.out 0).trans rfl
   have hcz20_1 : w3.cell? ⟨gb260,1,none⟩ = some (.bool a0_1):=(blk_cell BK260.out 1).trans rfl
   have hcz20_2 : w3.cell? ⟨gb260,2,none⟩ = some (.int .i64 a0_2):=(blk_cell BK260.out 2).trans rfl
   have hcz20_3 : w3.cell? ⟨gb260,3,none⟩ = some (.int .i64 a0_3):=(blk_cell BK260.out 3).trans rfl
   have hcz20_4 : w3.cell? ⟨gb260,4,none⟩ = some (.int .i64 a0_4):=(blk_cell BK260.out 4).trans rfl
   have hcz20_5 : w3.cell? ⟨gb260,5,none⟩ = some (.slice A0_5 l0_5.length c0_5):=(blk_cell BK260.out 5).trans rfl
   have hfz20_0:=blk_frozen BK260.out 0
   have hfz20_1:=blk_frozen BK260.out 1
   have hfz20_2:=blk_frozen BK260.out 2
   have hfz20_3:=blk_frozen BK260.out 3
   have hfz20_4:=blk_frozen BK260.out 4
   have hfz20_5:=blk_frozen BK260.out 5
   go_wp2_with (first|((with_reducible refine gate_callee (f:=78) rfl ?_);refine goesL_ (some 5) rfl rfl Try.func78 (by kernel_rfl) rfl #[.slice A0_5 l0_5.length c0_5] rfl (by (try simp only [List.map_toArray,List.map_cons,List.map_nil]);first|done|rfl|(simp only [List.length_drop,List.length_take];rfl)) ?_;(with_reducible refine (spec_l5Records.calls k _ _ l0_5 false _ ?side1 ?side2 A4.out).mono ?_);(case side1=>repeat (first|exact (Kd.C_below HR0_5.out HB.out)|(with_reducible refine Kd.C_alloc ?_ _)|(with_reducible refine Kd.C_drewN ?_ _)|(with_reducible refine Kd.C_drew ?_)));(case side2=>exact HC0_5.out);rintro e w21 ⟨rfl,hb⟩;refine ⟨_,rfl,?_⟩;have n0_:=Aside0.mk (blk_below (g:=gb260) (o:=.cells #[.bool a0_0,.bool a0_1,.int .i64 a0_2,.int .i64 a0_3,.int .i64 a0_4,.slice A0_5 l0_5.length c0_5] 54 (0,0)) (by (with_reducible repeat (first|refine blk_drewN ?_ _|refine blk_drew ?_|refine blk_alloc ?_ _));exact BK260.out) hb);have n1_:=Aside0.mk (below_step (by repeat (first|(with_reducible first|exact HB.out|apply below_alloc|apply pw_below_drewN|apply below_drew1|refine below_set ?_ GE260.out)|exact HB.out)) hb);clear BK260;clear HB;have BK260:=n0_;have HB:=n1_;clear n0_ n1_;(try clear hb);(try clear hb2);(try clear hk);(try clear hi)))
   go_meet
   case rel=>exact ⟨_,(true),(by first|rfl|(simp;done)|(simp [*];done)),H',⟨by first|omega|exact Nat.le_refl _⟩,⟨by (with_reducible repeat (first|refine blk_drewN ?_ _|refine blk_drew ?_|refine blk_alloc ?_ _));exact BK260.out⟩,⟨by repeat (first|(with_reducible first|exact HB.out|apply below_alloc|apply pw_below_drewN|apply below_drew1|refine below_set ?_ GE260.out)|exact HB.out)⟩⟩
 case rest =>
  clear HC2
  try clear p2
  try clear c4
  try clear c5
  try clear c7
  try clear c9
  try clear hcz11_0
  try clear hcz11_1
  try clear hcz11_2
  try clear hcz11_3
  try clear hcz11_4
  try clear hcz11_5
  try clear hcz13_0
  try clear hcz13_1
  try clear hcz13_2
  try clear hcz13_3
  try clear hcz13_4
  try clear hcz13_5
  try clear hcz14_0
  try clear hcz14_1
  try clear hcz14_2
  try clear hcz14_3
  try clear hcz14_4
  try clear hcz14_5
  try clear hcz16_0
  try clear hcz16_1
  try clear hcz16_2
  try clear hcz16_3
  try clear hcz16_4
  try clear hcz16_5
  try clear hcz17_0
  try clear hcz17_1
  try clear hcz17_2
  try clear hcz17_3
  try clear hcz17_4
  try clear hcz17_5
  try clear hcz19_0
  try clear hcz19_1
  try clear hcz19_2
  try clear hcz19_3
  try clear hcz19_4
  try clear hcz19_5
  try clear hcz20_0
  try clear hcz20_1
  try clear hcz20_2
  try clear hcz20_3
  try clear hcz20_4
  try clear hcz20_5
  try clear hfz11_0
  try clear hfz11_1
  try clear hfz11_2
  try clear hfz11_3
  try clear hfz11_4
  try clear hfz11_5
  try clear hfz13_0
  try clear hfz13_1
  try clear hfz13_2
  try clear hfz13_3
  try clear hfz13_4
  try clear hfz13_5
  try clear hfz14_0
  try clear hfz14_1
  try clear hfz14_2
  try clear hfz14_3
  try clear hfz14_4
  try clear hfz14_5
  try clear hfz16_0
  try clear hfz16_1
  try clear hfz16_2
  try clear hfz16_3
  try clear hfz16_4
  try clear hfz16_5
  try clear hfz17_0
  try clear hfz17_1
  try clear hfz17_2
  try clear hfz17_3
  try clear hfz17_4
  try clear hfz17_5
  try clear hfz19_0
  try clear hfz19_1
  try clear hfz19_2
  try clear hfz19_3
  try clear hfz19_4
  try clear hfz19_5
  try clear hfz20_0
  try clear hfz20_1
  try clear hfz20_2
  try clear hfz20_3
  try clear hfz20_4
  try clear hfz20_5
  obtain ⟨kq,x24_1,rfl,HA,HJ1,BK260,HB⟩:=hcut
  cases kq with
  | zero=>exact absurd HA.out (by simp [spec_BatchValid.j0])
  | succ kj1 =>
   have H:=HA.out
   clear HA
   simp only [spec_BatchValid.j0] at H
   by_cases c22 : x24_1=true
   ·subst c22
    have H1 : (some false)=some r:=by rw [if_pos rfl] at H;exact H
    clear H
    have H:=H1
    clear H1
    obtain rfl:=Option.some.inj H
    go_wp2
    go_ret
    exact ⟨by first|rfl|(simp [errW_none,errW_some] <;> rfl)|(simp [*,errW_none,errW_some] <;> rfl),by repeat (first|(with_reducible first|exact HB.out|apply below_alloc|apply pw_below_drewN|apply below_drew1|refine below_set ?_ GE260.out)|exact HB.out)⟩
   ·replace c22:=Bool.eq_false_iff.mpr c22
    subst c22
    have H1 : (if a0_2=255 then (if a0_3=0 then (if a0_4=0 then (some (!a0_1)) else (some false)) else (some false)) else (if a0_1=true then (some ((l0_5.length : Int) == 1)) else (some true)))=some r:=by rw [if_neg (show ¬ (false=true) by decide)] at H;exact H
    clear H
    have H:=H1
    clear H1
    by_cases c23 : a0_2=255
    ·rw [if_pos c23] at H
     have c23b0 : (a0_2 == 255)=true:=beq_iff_eq.mpr c23
     have c23b1 : (a0_2 != 255)=false:=bne_eq_false_iff_eq.mpr c23
     clear c23
     by_cases c24 : a0_3=0
     ·rw [if_pos c24] at H
      have c24b0 : (a0_3 == 0)=true:=beq_iff_eq.mpr c24
      have c24b1 : (a0_3 != 0)=false:=bne_eq_false_iff_eq.mpr c24
      clear c24
      by_cases c25 : a0_4=0
      ·rw [if_pos c25] at H
       have c25b0 : (a0_4 == 0)=true:=beq_iff_eq.mpr c25
       have c25b1 : (a0_4 != 0)=false:=bne_eq_false_iff_eq.mpr c25
       clear c25
       obtain rfl:=Option.some.inj H
       have hcz26_0 : wc.cell? ⟨gb260,0,none⟩ = some (.bool a0_0):=(blk_cell BK260.out 0).trans rfl
       have hcz26_1 : wc.cell? ⟨gb260,1,none⟩ = some (.bool a0_1):=(blk_cell BK260.out 1).trans rfl
       have hcz26_2 : wc.cell? ⟨gb260,2,none⟩ = some (.int .i64 a0_2):=(blk_cell BK260.out 2).trans rfl
       have hcz26_3 : wc.cell? ⟨gb260,3,none⟩ = some (.int .i64 a0_3):=(blk_cell BK260.out 3).trans rfl
       have hcz26_4 : wc.cell? ⟨gb260,4,none⟩ = some (.int .i64 a0_4):=(blk_cell BK260.out 4).trans rfl
       have hcz26_5 : wc.cell? ⟨gb260,5,none⟩ = some (.slice A0_5 l0_5.length c0_5):=(blk_cell BK260.out 5).trans rfl
       have hfz26_0:=blk_frozen BK260.out 0
       have hfz26_1:=blk_frozen BK260.out 1
       have hfz26_2:=blk_frozen BK260.out 2
       have hfz26_3:=blk_frozen BK260.out 3
       have hfz26_4:=blk_frozen BK260.out 4
       have hfz26_5:=blk_frozen BK260.out 5
       go_wp2
       go_ret
       exact ⟨by first|rfl|(simp [errW_none,errW_some] <;> rfl)|(simp [*,errW_none,errW_some] <;> rfl),by repeat (first|(with_reducible first|exact HB.out|apply below_alloc|apply pw_below_drewN|apply below_drew1|refine below_set ?_ GE260.out)|exact HB.out)⟩
      ·rw [if_neg c25] at H
       have c25b0 : (a0_4 == 0)=false:=beq_eq_false_iff_ne.mpr c25
       have c25b1 : (a0_4 != 0)=true:=bne_iff_ne.mpr c25
       obtain rfl:=Option.some.inj H
       have hcz27_0 : wc.cell? ⟨gb260,0,none⟩ = some (.bool a0_0):=(blk_cell BK260.out 0).trans rfl
       have hcz27_1 : wc.cell? ⟨gb260,1,none⟩ = some (.bool a0_1):=(blk_cell BK260.out 1).trans rfl
       have hcz27_2 : wc.cell? ⟨gb260,2,none⟩ = some (.int .i64 a0_2):=(blk_cell BK260.out 2).trans rfl
       have hcz27_3 : wc.cell? ⟨gb260,3,none⟩ = some (.int .i64 a0_3):=(blk_cell BK260.out 3).trans rfl
       have hcz27_4 : wc.cell? ⟨gb260,4,none⟩ = some (.int .i64 a0_4):=(blk_cell BK260.out 4).trans rfl
       have hcz27_5 : wc.cell? ⟨gb260,5,none⟩ = some (.slice A0_5 l0_5.length c0_5):=(blk_cell BK260.out 5).trans rfl
       have hfz27_0:=blk_frozen BK260.out 0
       have hfz27_1:=blk_frozen BK260.out 1
       have hfz27_2:=blk_frozen BK260.out 2
       have hfz27_3:=blk_frozen BK260.out 3
       have hfz27_4:=blk_frozen BK260.out 4
       have hfz27_5:=blk_frozen BK260.out 5
       go_wp2
       go_ret
       exact ⟨by first|rfl|(simp [errW_none,errW_some] <;> rfl)|(simp [*,errW_none,errW_some] <;> rfl),by repeat (first|(with_reducible first|exact HB.out|apply below_alloc|apply pw_below_drewN|apply below_drew1|refine below_set ?_ GE260.out)|exact HB.out)⟩
     ·rw [if_neg c24] at H
      have c24b0 : (a0_3 == 0)=false:=beq_eq_false_iff_ne.mpr c24
      have c24b1 : (a0_3 != 0)=true:=bne_iff_ne.mpr c24
      obtain rfl:=Option.some.inj H
      have hcz28_0 : wc.cell? ⟨gb260,0,none⟩ = some (.bool a0_0):=(blk_cell BK260.out 0).trans rfl
      have hcz28_1 : wc.cell? ⟨gb260,1,none⟩ = some (.bool a0_1):=(blk_cell BK260.out 1).trans rfl
      have hcz28_2 : wc.cell? ⟨gb260,2,none⟩ = some (.int .i64 a0_2):=(blk_cell BK260.out 2).trans rfl
      have hcz28_3 : wc.cell? ⟨gb260,3,none⟩ = some (.int .i64 a0_3):=(blk_cell BK260.out 3).trans rfl
      have hcz28_4 : wc.cell? ⟨gb260,4,none⟩ = some (.int .i64 a0_4):=(blk_cell BK260.out 4).trans rfl
      have hcz28_5 : wc.cell? ⟨gb260,5,none⟩ = some (.slice A0_5 l0_5.length c0_5):=(blk_cell BK260.out 5).trans rfl
      have hfz28_0:=blk_frozen BK260.out 0
      have hfz28_1:=blk_frozen BK260.out 1
      have hfz28_2:=blk_frozen BK260.out 2
      have hfz28_3:=blk_frozen BK260.out 3
      have hfz28_4:=blk_frozen BK260.out 4
      have hfz28_5:=blk_frozen BK260.out 5
      go_wp2
      go_ret
      exact ⟨by first|rfl|(simp [errW_none,errW_some] <;> rfl)|(simp [*,errW_none,errW_some] <;> rfl),by repeat (first|(with_reducible first|exact HB.out|apply below_alloc|apply pw_below_drewN|apply below_drew1|refine below_set ?_ GE260.out)|exact HB.out)⟩
    ·rw [if_neg c23] at H
     have c23b0 : (a0_2 == 255)=false:=beq_eq_false_iff_ne.mpr c23
     have c23b1 : (a0_2 != 255)=true:=bne_iff_ne.mpr c23
     by_cases c29 : a0_1=true
     ·subst c29
      have H1 : (some ((l0_5.length : Int) == 1))=some r:=by rw [if_pos rfl] at H;exact H
      clear H
      have H:=H1
      clear H1
      obtain rfl:=Option.some.inj H
      have hcz30_0 : wc.cell? ⟨gb260,0,none⟩ = some (.bool a0_0):=(blk_cell BK260.out 0).trans rfl
      have hcz30_1 : wc.cell? ⟨gb260,1,none⟩ = some (.bool true):=(blk_cell BK260.out 1).trans rfl
      have hcz30_2 : wc.cell? ⟨gb260,2,none⟩ = some (.int .i64 a0_2):=(blk_cell BK260.out 2).trans rfl
      have hcz30_3 : wc.cell? ⟨gb260,3,none⟩ = some (.int .i64 a0_3):=(blk_cell BK260.out 3).trans rfl
      have hcz30_4 : wc.cell? ⟨gb260,4,none⟩ = some (.int .i64 a0_4):=(blk_cell BK260.out 4).trans rfl
      have hcz30_5 : wc.cell? ⟨gb260,5,none⟩ = some (.slice A0_5 l0_5.length c0_5):=(blk_cell BK260.out 5).trans rfl
      have hfz30_0:=blk_frozen BK260.out 0
      have hfz30_1:=blk_frozen BK260.out 1
      have hfz30_2:=blk_frozen BK260.out 2
      have hfz30_3:=blk_frozen BK260.out 3
      have hfz30_4:=blk_frozen BK260.out 4
      have hfz30_5:=blk_frozen BK260.out 5
      go_wp2
      go_ret
      exact ⟨by first|rfl|(simp [errW_none,errW_some] <;> rfl)|(simp [*,errW_none,errW_some] <;> rfl),by repeat (first|(with_reducible first|exact HB.out|apply below_alloc|apply pw_below_drewN|apply below_drew1|refine below_set ?_ GE260.out)|exact HB.out)⟩
     ·replace c29:=Bool.eq_false_iff.mpr c29
      subst c29
      have H1 : (some true)=some r:=by rw [if_neg (show ¬ (false=true) by decide)] at H;exact H
      clear H
      have H:=H1
      clear H1
      obtain rfl:=Option.some.inj H
      have hcz31_0 : wc.cell? ⟨gb260,0,none⟩ = some (.bool a0_0):=(blk_cell BK260.out 0).trans rfl
      have hcz31_1 : wc.cell? ⟨gb260,1,none⟩ = some (.bool false):=(blk_cell BK260.out 1).trans rfl
      have hcz31_2 : wc.cell? ⟨gb260,2,none⟩ = some (.int .i64 a0_2):=(blk_cell BK260.out 2).trans rfl
      have hcz31_3 : wc.cell? ⟨gb260,3,none⟩ = some (.int .i64 a0_3):=(blk_cell BK260.out 3).trans rfl
      have hcz31_4 : wc.cell? ⟨gb260,4,none⟩ = some (.int .i64 a0_4):=(blk_cell BK260.out 4).trans rfl
      have hcz31_5 : wc.cell? ⟨gb260,5,none⟩ = some (.slice A0_5 l0_5.length c0_5):=(blk_cell BK260.out 5).trans rfl
      have hfz31_0:=blk_frozen BK260.out 0
      have hfz31_1:=blk_frozen BK260.out 1
      have hfz31_2:=blk_frozen BK260.out 2
      have hfz31_3:=blk_frozen BK260.out 3
      have hfz31_4:=blk_frozen BK260.out 4
      have hfz31_5:=blk_frozen BK260.out 5
      go_wp2
      go_ret
      exact ⟨by first|rfl|(simp [errW_none,errW_some] <;> rfl)|(simp [*,errW_none,errW_some] <;> rfl),by repeat (first|(with_reducible first|exact HB.out|apply below_alloc|apply pw_below_drewN|apply below_drew1|refine below_set ?_ GE260.out)|exact HB.out)⟩

end Go.Proofs.Ytdgpkjjclngamaa.QFnBatchPart
