-- Written by this session's program wip/ownprint.py.
import Derived.Test.YtmpnedpokdaejaaQFnExactOldTurnx0
import Derived.Test.YtmpnedpokdaejaaQFnExactOldTurnx5
namespace Go.Proofs.Ytmpnedpokdaejaa.QFnExactOldTurn
open Go.RowKit Go.Proofs.YtmpnedpokdaejaaW.PrintWords Go.Proofs.YtmpnedpokdaejaaW.PrintLast Go.Proofs.YtmpnedpokdaejaaW.PrintMore
attribute [local go_sem] max2_int min2_int max_two min_two max_three min_three max_four min_four   -- for this text's walks alone
set_option linter.unusedVariables false
set_option linter.unusedSimpArgs false

/-! ### impl_partValid: function 89 -/
def impl_partValid.f (k : Nat) (a0 : Bool) (l1 : List Int) : Option (Bool):=if a0=true then (if (l1.length : Int) ≤ 12 then ((impl_allBytes.f k l1).bind fun t212=>(some t212)) else (some false)) else (some ((l1.length : Int) == 0))
theorem impl_partValid.mono : ∀ a0 a1 k,LeO (impl_partValid.f k a0 a1) (impl_partValid.f (k + 1) a0 a1):=by
 intro a0 a1 k
 unfold impl_partValid.f
 repeat' first
   | (with_reducible exact impl_allBytes.mono _ _)
   | (with_reducible exact LeO.refl _)
   | (with_reducible exact LeO.none _)
   | (with_reducible refine LeO.ite ?_ ?_)
   | (with_reducible refine LeO.bind ?_ (fun _=>?_))
   | exact impl_allBytes.mono _ _
   | exact LeO.none _
   | refine LeO.ite ?_ ?_
   | refine LeO.bind ?_ (fun _=>?_)
set_option maxHeartbeats 8000000 in
set_option maxRecDepth 100000 in
theorem impl_partValid.calls (k : Nat) (a0 : Bool) (A1 : Option Addr) (c1 : Nat) (l1 : List Int) (r : Bool) (w : World) (hr1 : Kd.C (Kd.int .i64) w A1 l1.length l1) (hc1 : l1.length ≤ c1) (h : impl_partValid.f k a0 l1=some r) :
  Calls Try.prog 89 #[.bool a0,.slice A1 l1.length c1] w fun e w'=>e = .returned (.bool r)∧Drawn0 w w':=by
 have HR1:=Aside0.mk hr1
 have HC1:=Aside0.mk hc1
 clear hr1 hc1
 have H : (if a0=true then (if (l1.length : Int) ≤ 12 then ((impl_allBytes.f k l1).bind fun t212=>(some t212)) else (some false)) else (some ((l1.length : Int) == 0)))=some r:=h
 clear h
 by_cases c3 : a0=true
 ·subst c3
  have H1 : (if (l1.length : Int) ≤ 12 then ((impl_allBytes.f k l1).bind fun t212=>(some t212)) else (some false))=some r:=by rw [if_pos rfl] at H;exact H
  clear H
  have H:=H1
  clear H1
  by_cases c4 : (l1.length : Int) ≤ 12
  ·rw [if_pos c4] at H
   have c4b0 : decide ((l1.length : Int) ≤ 12)=true:=decide_eq_true c4
   have c4b1 : decide (l1.length ≤ 12)=true:=decide_eq_true (by omega)
   clear c4
   replace H:=Option.bind_eq_some_iff.mp H
   obtain ⟨t212,A50,H⟩:=H
   replace H : (some t212)=some r:=H
   have A5:=Aside0.mk A50
   clear A50
   obtain rfl:=Option.some.inj H
   go_enter Try.func89,Try.ntmps89
   go_wp2_with (first|(go_at_call 50;(with_reducible refine (impl_allBytes.calls k _ _ l1 t212 _ ?side1 ?side2 A5.out).mono ?_);(case side1=>repeat (first|exact HR1.out|(with_reducible refine Kd.C_alloc ?_ _)|(with_reducible refine Kd.C_drewN ?_ _)|(with_reducible refine Kd.C_drew ?_)));(case side2=>exact HC1.out);rintro e w' ⟨rfl,⟨nd,rfl⟩⟩))
   go_ret
   exact ⟨by first|rfl|(simp;done)|(simp [*];done),by repeat (first|exact Drawn0.refl _|apply Drawn0.step)⟩
  ·rw [if_neg c4] at H
   have c4b0 : decide ((l1.length : Int) ≤ 12)=false:=decide_eq_false c4
   have c4b1 : decide (l1.length ≤ 12)=false:=decide_eq_false (by omega)
   clear c4
   obtain rfl:=Option.some.inj H
   go_enter Try.func89,Try.ntmps89
   go_wp2
   go_ret
   exact ⟨by first|rfl|(simp;done)|(simp [*];done),by repeat (first|exact Drawn0.refl _|apply Drawn0.step)⟩
 ·replace c3:=Bool.eq_false_iff.mpr c3
  subst c3
  have H1 : (some ((l1.length : Int) == 0))=some r:=by rw [if_neg (show ¬ (false=true) by decide)] at H;exact H
  clear H
  have H:=H1
  clear H1
  obtain rfl:=Option.some.inj H
  go_enter Try.func89,Try.ntmps89
  go_wp2
  go_ret
  exact ⟨by first|rfl|(simp;done)|(simp [*];done),by repeat (first|exact Drawn0.refl _|apply Drawn0.step)⟩

/-! ### impl_RecordValid: function 72 -/
def impl_RecordValid.f (k : Nat) (a0_0 : Int) (a0_1 : Int) (a0_2 : Bool) (l0_3 : List Int) (a0_4 : Bool) (l0_5 : List Int) : Option (Bool):=(impl_baseValid.f a0_0 a0_1).bind fun t214=>(if t214=true then ((impl_partValid.f k a0_2 l0_3).bind fun t215=>(if t215=true then ((impl_partValid.f k a0_4 l0_5).bind fun t216=>(some t216)) else (some false))) else (some false))
theorem impl_RecordValid.mono : ∀ a0 a1 a2 a3 a4 a5 k,LeO (impl_RecordValid.f k a0 a1 a2 a3 a4 a5) (impl_RecordValid.f (k + 1) a0 a1 a2 a3 a4 a5):=by
 intro a0 a1 a2 a3 a4 a5 k
 unfold impl_RecordValid.f
 repeat' first
   | (with_reducible exact impl_partValid.mono _ _ _)
   | (with_reducible exact LeO.refl _)
   | (with_reducible exact LeO.none _)
   | (with_reducible refine LeO.ite ?_ ?_)
   | (with_reducible refine LeO.bind ?_ (fun _=>?_))
   | exact impl_partValid.mono _ _ _
   | exact LeO.none _
   | refine LeO.ite ?_ ?_
   | refine LeO.bind ?_ (fun _=>?_)
set_option maxHeartbeats 8000000 in
set_option maxRecDepth 100000 in
theorem impl_RecordValid.calls (k : Nat) (a0_0 : Int) (a0_1 : Int) (a0_2 : Bool) (A0_3 : Option Addr) (c0_3 : Nat) (l0_3 : List Int) (a0_4 : Bool) (A0_5 : Option Addr) (c0_5 : Nat) (l0_5 : List Int) (r : Bool) (w : World) (hr0_3 : Kd.C (Kd.int .i64) w A0_3 l0_3.length l0_3) (hc0_3 : l0_3.length ≤ c0_3) (hr0_5 : Kd.C (Kd.int .i64) w A0_5 l0_5.length l0_5) (hc0_5 : l0_5.length ≤ c0_5) (h : impl_RecordValid.f k a0_0 a0_1 a0_2 l0_3 a0_4 l0_5=some r) :
  Calls Try.prog 72 #[.agg #[.int .i64 a0_0,.int .i64 a0_1,.bool a0_2,.slice A0_3 l0_3.length c0_3,.bool a0_4,.slice A0_5 l0_5.length c0_5]] w fun e w'=>e = .returned (.bool r)∧Below w.heap.size w w':=by
 have hu57:=Try.underlying57
 have HR0_3:=Aside0.mk hr0_3
 have HC0_3:=Aside0.mk hc0_3
 clear hr0_3 hc0_3
 have HR0_5:=Aside0.mk hr0_5
 have HC0_5:=Aside0.mk hc0_5
 clear hr0_5 hc0_5
 have HB:=Aside0.mk (Below.refl w.heap.size w)
 have H : ((impl_baseValid.f a0_0 a0_1).bind fun t214=>(if t214=true then ((impl_partValid.f k a0_2 l0_3).bind fun t215=>(if t215=true then ((impl_partValid.f k a0_4 l0_5).bind fun t216=>(some t216)) else (some false))) else (some false)))=some r:=h
 clear h
 replace H:=Option.bind_eq_some_iff.mp H
 obtain ⟨t214,A20,H⟩:=H
 replace H : (if t214=true then ((impl_partValid.f k a0_2 l0_3).bind fun t215=>(if t215=true then ((impl_partValid.f k a0_4 l0_5).bind fun t216=>(some t216)) else (some false))) else (some false))=some r:=H
 have A2:=Aside0.mk A20
 clear A20
 by_cases c3 : t214=true
 ·subst c3
  have H1 : ((impl_partValid.f k a0_2 l0_3).bind fun t215=>(if t215=true then ((impl_partValid.f k a0_4 l0_5).bind fun t216=>(some t216)) else (some false)))=some r:=by rw [if_pos rfl] at H;exact H
  clear H
  have H:=H1
  clear H1
  replace H:=Option.bind_eq_some_iff.mp H
  obtain ⟨t215,A40,H⟩:=H
  replace H : (if t215=true then ((impl_partValid.f k a0_4 l0_5).bind fun t216=>(some t216)) else (some false))=some r:=H
  have A4:=Aside0.mk A40
  clear A40
  by_cases c5 : t215=true
  ·subst c5
   have H1 : ((impl_partValid.f k a0_4 l0_5).bind fun t216=>(some t216))=some r:=by rw [if_pos rfl] at H;exact H
   clear H
   have H:=H1
   clear H1
   replace H:=Option.bind_eq_some_iff.mp H
   obtain ⟨t216,A60,H⟩:=H
   replace H : (some t216)=some r:=H
   have A6:=Aside0.mk A60
   clear A60
   obtain rfl:=Option.some.inj H
   go_enter Try.func72,Try.ntmps72
   go_wp2_with (first|((with_reducible refine gate_dst (N:=1) rfl ?_);refine box_event ?hg (N:=1) ?hd (cs:=#[.int .i64 a0_0,.int .i64 a0_1,.bool a0_2,.slice A0_3 l0_3.length c0_3,.bool a0_4,.slice A0_5 l0_5.length c0_5]) (t:=57) ?hr ?_;(case hd=>rfl);(case hg=>rfl);(case hr=>first|(go_simp;done)|(go_simp;rfl));intro gb213 hg w7 hbox hb;have n0_:=Aside0.mk (below_step (by repeat (first|(with_reducible first|exact HB.out|apply below_alloc|apply pw_below_drewN|apply below_drew1)|exact HB.out)) hb);have n1_:=Aside0.mk (hbox);have n2_:=Aside0.mk ((by rw [hg];exact (below_size (by repeat (first|(with_reducible first|exact HB.out|apply below_alloc|apply pw_below_drewN|apply below_drew1)|exact HB.out))) : w.heap.size ≤ gb213));have n3_:=Aside0.mk ((by rw [hg];exact (below_size (by repeat (first|(with_reducible first|exact HB.out|apply below_alloc|apply pw_below_drewN|apply below_drew1)|exact HB.out))) : w.heap.size ≤ gb213));clear HB;have HB:=n0_;have BK213:=n1_;have GW213:=n2_;have GE213:=n3_;clear n0_ n1_ n2_ n3_;clear hb hbox hg;have hcz8_0 : w7.cell? ⟨gb213,0,none⟩ = some (.int .i64 a0_0):=(blk_cell BK213.out 0).trans rfl;have hcz8_1 : w7.cell? ⟨gb213,1,none⟩ = some (.int .i64 a0_1):=(blk_cell BK213.out 1).trans rfl;have hcz8_2 : w7.cell? ⟨gb213,2,none⟩ = some (.bool a0_2):=(blk_cell BK213.out 2).trans rfl;have hcz8_3 : w7.cell? ⟨gb213,3,none⟩ = some (.slice A0_3 l0_3.length c0_3):=(blk_cell BK213.out 3).trans rfl;have hcz8_4 : w7.cell? ⟨gb213,4,none⟩ = some (.bool a0_4):=(blk_cell BK213.out 4).trans rfl;have hcz8_5 : w7.cell? ⟨gb213,5,none⟩ = some (.slice A0_5 l0_5.length c0_5):=(blk_cell BK213.out 5).trans rfl;have hfz8_0:=blk_frozen BK213.out 0;have hfz8_1:=blk_frozen BK213.out 1;have hfz8_2:=blk_frozen BK213.out 2;have hfz8_3:=blk_frozen BK213.out 3;have hfz8_4:=blk_frozen BK213.out 4;have hfz8_5:=blk_frozen BK213.out 5)|((with_reducible refine gate_callee (f:=88) rfl ?_);refine goesL_ (some 7) rfl rfl Try.func88 (by kernel_rfl) rfl #[.int .i64 a0_0,.int .i64 a0_1] rfl (by (try simp only [List.map_toArray,List.map_cons,List.map_nil]);first|done|rfl|(simp only [List.length_drop,List.length_take];rfl)) ?_;(with_reducible refine (impl_baseValid.calls a0_0 a0_1 true _ A2.out).mono ?_);rintro e w' ⟨rfl,⟨nd,rfl⟩⟩;refine ⟨_,rfl,?_⟩)|(go_at_call 89;(with_reducible refine (impl_partValid.calls k a0_2 _ _ l0_3 true _ ?side1 ?side2 A4.out).mono ?_);(case side1=>repeat (first|exact (Kd.C_below HR0_3.out (by repeat (first|(with_reducible first|exact HB.out|apply below_alloc|apply pw_below_drewN|apply below_drew1|refine below_set ?_ GE213.out)|exact HB.out)))|(with_reducible refine Kd.C_alloc ?_ _)|(with_reducible refine Kd.C_drewN ?_ _)|(with_reducible refine Kd.C_drew ?_)));(case side2=>exact HC0_3.out);rintro e w' ⟨rfl,⟨nd,rfl⟩⟩)|(go_at_call 89;(with_reducible refine (impl_partValid.calls k a0_4 _ _ l0_5 t216 _ ?side1 ?side2 A6.out).mono ?_);(case side1=>repeat (first|exact (Kd.C_below HR0_5.out (by repeat (first|(with_reducible first|exact HB.out|apply below_alloc|apply pw_below_drewN|apply below_drew1|refine below_set ?_ GE213.out)|exact HB.out)))|(with_reducible refine Kd.C_alloc ?_ _)|(with_reducible refine Kd.C_drewN ?_ _)|(with_reducible refine Kd.C_drew ?_)));(case side2=>exact HC0_5.out);rintro e w' ⟨rfl,⟨nd,rfl⟩⟩))
   go_ret
   exact ⟨by first|rfl|(simp [errW_none,errW_some] <;> rfl)|(simp [*,errW_none,errW_some] <;> rfl),by repeat (first|(with_reducible first|exact HB.out|apply below_alloc|apply pw_below_drewN|apply below_drew1|refine below_set ?_ GE213.out)|exact HB.out)⟩
  ·replace c5:=Bool.eq_false_iff.mpr c5
   subst c5
   have H1 : (some false)=some r:=by rw [if_neg (show ¬ (false=true) by decide)] at H;exact H
   clear H
   have H:=H1
   clear H1
   obtain rfl:=Option.some.inj H
   go_enter Try.func72,Try.ntmps72
   go_wp2_with (first|((with_reducible refine gate_dst (N:=1) rfl ?_);refine box_event ?hg (N:=1) ?hd (cs:=#[.int .i64 a0_0,.int .i64 a0_1,.bool a0_2,.slice A0_3 l0_3.length c0_3,.bool a0_4,.slice A0_5 l0_5.length c0_5]) (t:=57) ?hr ?_;(case hd=>rfl);(case hg=>rfl);(case hr=>first|(go_simp;done)|(go_simp;rfl));intro gb213 hg w9 hbox hb;have n0_:=Aside0.mk (below_step (by repeat (first|(with_reducible first|exact HB.out|apply below_alloc|apply pw_below_drewN|apply below_drew1)|exact HB.out)) hb);have n1_:=Aside0.mk (hbox);have n2_:=Aside0.mk ((by rw [hg];exact (below_size (by repeat (first|(with_reducible first|exact HB.out|apply below_alloc|apply pw_below_drewN|apply below_drew1)|exact HB.out))) : w.heap.size ≤ gb213));have n3_:=Aside0.mk ((by rw [hg];exact (below_size (by repeat (first|(with_reducible first|exact HB.out|apply below_alloc|apply pw_below_drewN|apply below_drew1)|exact HB.out))) : w.heap.size ≤ gb213));clear HB;have HB:=n0_;have BK213:=n1_;have GW213:=n2_;have GE213:=n3_;clear n0_ n1_ n2_ n3_;clear hb hbox hg;have hcz10_0 : w9.cell? ⟨gb213,0,none⟩ = some (.int .i64 a0_0):=(blk_cell BK213.out 0).trans rfl;have hcz10_1 : w9.cell? ⟨gb213,1,none⟩ = some (.int .i64 a0_1):=(blk_cell BK213.out 1).trans rfl;have hcz10_2 : w9.cell? ⟨gb213,2,none⟩ = some (.bool a0_2):=(blk_cell BK213.out 2).trans rfl;have hcz10_3 : w9.cell? ⟨gb213,3,none⟩ = some (.slice A0_3 l0_3.length c0_3):=(blk_cell BK213.out 3).trans rfl;have hcz10_4 : w9.cell? ⟨gb213,4,none⟩ = some (.bool a0_4):=(blk_cell BK213.out 4).trans rfl;have hcz10_5 : w9.cell? ⟨gb213,5,none⟩ = some (.slice A0_5 l0_5.length c0_5):=(blk_cell BK213.out 5).trans rfl;have hfz10_0:=blk_frozen BK213.out 0;have hfz10_1:=blk_frozen BK213.out 1;have hfz10_2:=blk_frozen BK213.out 2;have hfz10_3:=blk_frozen BK213.out 3;have hfz10_4:=blk_frozen BK213.out 4;have hfz10_5:=blk_frozen BK213.out 5)|((with_reducible refine gate_callee (f:=88) rfl ?_);refine goesL_ (some 7) rfl rfl Try.func88 (by kernel_rfl) rfl #[.int .i64 a0_0,.int .i64 a0_1] rfl (by (try simp only [List.map_toArray,List.map_cons,List.map_nil]);first|done|rfl|(simp only [List.length_drop,List.length_take];rfl)) ?_;(with_reducible refine (impl_baseValid.calls a0_0 a0_1 true _ A2.out).mono ?_);rintro e w' ⟨rfl,⟨nd,rfl⟩⟩;refine ⟨_,rfl,?_⟩)|(go_at_call 89;(with_reducible refine (impl_partValid.calls k a0_2 _ _ l0_3 false _ ?side1 ?side2 A4.out).mono ?_);(case side1=>repeat (first|exact (Kd.C_below HR0_3.out (by repeat (first|(with_reducible first|exact HB.out|apply below_alloc|apply pw_below_drewN|apply below_drew1|refine below_set ?_ GE213.out)|exact HB.out)))|(with_reducible refine Kd.C_alloc ?_ _)|(with_reducible refine Kd.C_drewN ?_ _)|(with_reducible refine Kd.C_drew ?_)));(case side2=>exact HC0_3.out);rintro e w' ⟨rfl,⟨nd,rfl⟩⟩))
   go_ret
   exact ⟨by first|rfl|(simp [errW_none,errW_some] <;> rfl)|(simp [*,errW_none,errW_some] <;> rfl),by repeat (first|(with_reducible first|exact HB.out|apply below_alloc|apply pw_below_drewN|apply below_drew1|refine below_set ?_ GE213.out)|exact HB.out)⟩
 ·replace c3:=Bool.eq_false_iff.mpr c3
  subst c3
  have H1 : (some false)=some r:=by rw [if_neg (show ¬ (false=true) by decide)] at H;exact H
  clear H
  have H:=H1
  clear H1
  obtain rfl:=Option.some.inj H
  go_enter Try.func72,Try.ntmps72
  go_wp2_with (first|((with_reducible refine gate_dst (N:=1) rfl ?_);refine box_event ?hg (N:=1) ?hd (cs:=#[.int .i64 a0_0,.int .i64 a0_1,.bool a0_2,.slice A0_3 l0_3.length c0_3,.bool a0_4,.slice A0_5 l0_5.length c0_5]) (t:=57) ?hr ?_;(case hd=>rfl);(case hg=>rfl);(case hr=>first|(go_simp;done)|(go_simp;rfl));intro gb213 hg w11 hbox hb;have n0_:=Aside0.mk (below_step (by repeat (first|(with_reducible first|exact HB.out|apply below_alloc|apply pw_below_drewN|apply below_drew1)|exact HB.out)) hb);have n1_:=Aside0.mk (hbox);have n2_:=Aside0.mk ((by rw [hg];exact (below_size (by repeat (first|(with_reducible first|exact HB.out|apply below_alloc|apply pw_below_drewN|apply below_drew1)|exact HB.out))) : w.heap.size ≤ gb213));have n3_:=Aside0.mk ((by rw [hg];exact (below_size (by repeat (first|(with_reducible first|exact HB.out|apply below_alloc|apply pw_below_drewN|apply below_drew1)|exact HB.out))) : w.heap.size ≤ gb213));clear HB;have HB:=n0_;have BK213:=n1_;have GW213:=n2_;have GE213:=n3_;clear n0_ n1_ n2_ n3_;clear hb hbox hg;have hcz12_0 : w11.cell? ⟨gb213,0,none⟩ = some (.int .i64 a0_0):=(blk_cell BK213.out 0).trans rfl;have hcz12_1 : w11.cell? ⟨gb213,1,none⟩ = some (.int .i64 a0_1):=(blk_cell BK213.out 1).trans rfl;have hcz12_2 : w11.cell? ⟨gb213,2,none⟩ = some (.bool a0_2):=(blk_cell BK213.out 2).trans rfl;have hcz12_3 : w11.cell? ⟨gb213,3,none⟩ = some (.slice A0_3 l0_3.length c0_3):=(blk_cell BK213.out 3).trans rfl;have hcz12_4 : w11.cell? ⟨gb213,4,none⟩ = some (.bool a0_4):=(blk_cell BK213.out 4).trans rfl;have hcz12_5 : w11.cell? ⟨gb213,5,none⟩ = some (.slice A0_5 l0_5.length c0_5):=(blk_cell BK213.out 5).trans rfl;have hfz12_0:=blk_frozen BK213.out 0;have hfz12_1:=blk_frozen BK213.out 1;have hfz12_2:=blk_frozen BK213.out 2;have hfz12_3:=blk_frozen BK213.out 3;have hfz12_4:=blk_frozen BK213.out 4;have hfz12_5:=blk_frozen BK213.out 5)|((with_reducible refine gate_callee (f:=88) rfl ?_);refine goesL_ (some 7) rfl rfl Try.func88 (by kernel_rfl) rfl #[.int .i64 a0_0,.int .i64 a0_1] rfl (by (try simp only [List.map_toArray,List.map_cons,List.map_nil]);first|done|rfl|(simp only [List.length_drop,List.length_take];rfl)) ?_;(with_reducible refine (impl_baseValid.calls a0_0 a0_1 false _ A2.out).mono ?_);rintro e w' ⟨rfl,⟨nd,rfl⟩⟩;refine ⟨_,rfl,?_⟩))
  go_ret
  exact ⟨by first|rfl|(simp [errW_none,errW_some] <;> rfl)|(simp [*,errW_none,errW_some] <;> rfl),by repeat (first|(with_reducible first|exact HB.out|apply below_alloc|apply pw_below_drewN|apply below_drew1|refine below_set ?_ GE213.out)|exact HB.out)⟩

-- NOT PRINTED: function 60 (impl_keptValid)

/-! ### impl_OldValid: function 20 -/
theorem run_ta (v : Value) (W : World) : (Instr.typeAssert (.iface 26 v) 98 26 true).run Try.prog W = .ok (.tuple #[v,.bool true]) W:=by
 simp [Instr.typeAssert,run_underlying Try.underlying26,go_sem,Result.andThen]
def impl_OldValid.f (k : Nat) (a0_0 : Int) (a0_1 : Bool) (a0_2 : Int) (l0_3 : List Int) (l0_4 : List Int) (a0_5 : Bool) (a0_6 : Bool) : Option Bool:=(impl_Old_kept.f a0_0 a0_1 a0_2 l0_3 l0_4 a0_5 a0_6).bind fun t=>(impl_RecordValid.f k t.1 t.2.1 t.2.2.1 t.2.2.2.1 t.2.2.2.2.1 t.2.2.2.2.2).bind fun v=>some (v && (a0_1 || decide (a0_2=0)))
theorem impl_OldValid.mono : ∀ a0 a1 a2 a3 a4 a5 a6 k,LeO (impl_OldValid.f k a0 a1 a2 a3 a4 a5 a6) (impl_OldValid.f (k + 1) a0 a1 a2 a3 a4 a5 a6):=by
 intro a0 a1 a2 a3 a4 a5 a6 k
 unfold impl_OldValid.f
 exact LeO.bind (LeO.refl _) (fun _=>LeO.bind (impl_RecordValid.mono _ _ _ _ _ _ _) (fun _=>LeO.refl _))
set_option maxHeartbeats 2000000 in
set_option maxRecDepth 100000 in
theorem keptValid_calls (k : Nat) (a0 : Int) (a1 : Bool) (a2 : Int) (A3 : Option Addr) (c3 : Nat) (l3 : List Int) (A4 : Option Addr) (c4 : Nat) (l4 : List Int) (a5 a6 : Bool) (r : Bool) (w : World)
  (hr3 : Kd.C (Kd.int .i64) w A3 l3.length l3) (hc3 : l3.length ≤ c3) (hr4 : Kd.C (Kd.int .i64) w A4 l4.length l4) (hc4 : l4.length ≤ c4) (h : impl_OldValid.f k a0 a1 a2 l3 l4 a5 a6=some r) :
  Calls Try.prog 60 #[.iface 26 (.agg #[.int .i64 a0,.bool a1,.int .i64 a2,.slice A3 l3.length c3,.slice A4 l4.length c4,.bool a5,.bool a6])] w fun e w'=>e = .returned (.bool r)∧Below w.heap.size w w':=by
 have hu26:=Try.underlying26
 have hu57:=Try.underlying57
 have hu98:=Try.underlying98
 obtain ⟨⟨r1,r2,r3,r4,r5,r6⟩,K0,h⟩:=Option.bind_eq_some_iff.mp h
 obtain ⟨v,V0,h⟩:=Option.bind_eq_some_iff.mp h
 dsimp only at V0
 have hta:=run_ta
 have hv : (v && (a1 || decide (a2=0)))=r:=by simpa using h
 clear h
 cases v with
 | false =>
  obtain rfl : false=r:=by simpa using hv
  go_enter Try.func60,Try.ntmps60
  go_wp2_with (first|(go_at_call 63;refine (impl_Old_kept.calls a0 _ a2 A3 c3 l3 A4 c4 l4 a5 a6 r1 r2 r3 r4 r5 r6 _ (Kd.C_alloc hr3 _) hc3 (Kd.C_alloc hr4 _) hc4 K0).mono ?_;rintro e W1 ⟨v3,v5,rfl,ho3,ho5,hb⟩;have hB1:=below_step (below_alloc (Below.refl _ _) _) hb;have BK:=blk_below (blk_new w _) hb;obtain ⟨A3_,c3_,rfl,hl3,hC3⟩:=Kd.R_reads ho3;obtain ⟨A5_,c5_,rfl,hl5,hC5⟩:=Kd.R_reads ho5;clear ho3 ho5 hb)|(go_at_call 72;refine (impl_RecordValid.calls k r1 r2 r3 A3_ c3_ r4 r5 A5_ c5_ r6 false _ hC3 hl3 hC5 hl5 V0).mono ?_;rintro e W2 ⟨rfl,hb2⟩;have hm1:=(blk_cell (blk_below BK hb2) 1).trans rfl;have hm2:=(blk_cell (blk_below BK hb2) 2).trans rfl))
  go_ret
  exact ⟨by first|rfl|simp,below_step hB1 hb2⟩
 | true =>
  cases a1 with
  | true =>
   obtain rfl : true=r:=by simpa using hv
   go_enter Try.func60,Try.ntmps60
   go_wp2_with (first|(go_at_call 63;refine (impl_Old_kept.calls a0 _ a2 A3 c3 l3 A4 c4 l4 a5 a6 r1 r2 r3 r4 r5 r6 _ (Kd.C_alloc hr3 _) hc3 (Kd.C_alloc hr4 _) hc4 K0).mono ?_;rintro e W1 ⟨v3,v5,rfl,ho3,ho5,hb⟩;have hB1:=below_step (below_alloc (Below.refl _ _) _) hb;have BK:=blk_below (blk_new w _) hb;obtain ⟨A3_,c3_,rfl,hl3,hC3⟩:=Kd.R_reads ho3;obtain ⟨A5_,c5_,rfl,hl5,hC5⟩:=Kd.R_reads ho5;clear ho3 ho5 hb)|(go_at_call 72;refine (impl_RecordValid.calls k r1 r2 r3 A3_ c3_ r4 r5 A5_ c5_ r6 true _ hC3 hl3 hC5 hl5 V0).mono ?_;rintro e W2 ⟨rfl,hb2⟩;have hm1:=(blk_cell (blk_below BK hb2) 1).trans rfl;have hm2:=(blk_cell (blk_below BK hb2) 2).trans rfl))
   go_ret
   exact ⟨by first|rfl|simp,below_step hB1 hb2⟩
  | false =>
   obtain rfl : decide (a2=0)=r:=by simpa using hv
   go_enter Try.func60,Try.ntmps60
   go_wp2_with (first|(go_at_call 63;refine (impl_Old_kept.calls a0 _ a2 A3 c3 l3 A4 c4 l4 a5 a6 r1 r2 r3 r4 r5 r6 _ (Kd.C_alloc hr3 _) hc3 (Kd.C_alloc hr4 _) hc4 K0).mono ?_;rintro e W1 ⟨v3,v5,rfl,ho3,ho5,hb⟩;have hB1:=below_step (below_alloc (Below.refl _ _) _) hb;have BK:=blk_below (blk_new w _) hb;obtain ⟨A3_,c3_,rfl,hl3,hC3⟩:=Kd.R_reads ho3;obtain ⟨A5_,c5_,rfl,hl5,hC5⟩:=Kd.R_reads ho5;clear ho3 ho5 hb)|(go_at_call 72;refine (impl_RecordValid.calls k r1 r2 r3 A3_ c3_ r4 r5 A5_ c5_ r6 true _ hC3 hl3 hC5 hl5 V0).mono ?_;rintro e W2 ⟨rfl,hb2⟩;have hm1:=(blk_cell (blk_below BK hb2) 1).trans rfl;have hm2:=(blk_cell (blk_below BK hb2) 2).trans rfl))
   go_ret
   exact ⟨by first|rfl|simp,below_step hB1 hb2⟩
set_option maxHeartbeats 2000000 in
set_option maxRecDepth 100000 in
theorem impl_OldValid.calls (k : Nat) (a0_0 : Int) (a0_1 : Bool) (a0_2 : Int) (A0_3 : Option Addr) (c0_3 : Nat) (l0_3 : List Int) (A0_4 : Option Addr) (c0_4 : Nat) (l0_4 : List Int) (a0_5 : Bool) (a0_6 : Bool) (r : Bool) (w : World) (hr0_3 : Kd.C (Kd.int .i64) w A0_3 l0_3.length l0_3) (hc0_3 : l0_3.length ≤ c0_3) (hr0_4 : Kd.C (Kd.int .i64) w A0_4 l0_4.length l0_4) (hc0_4 : l0_4.length ≤ c0_4) (h : impl_OldValid.f k a0_0 a0_1 a0_2 l0_3 l0_4 a0_5 a0_6=some r) :
  Calls Try.prog 20 #[.agg #[.int .i64 a0_0,.bool a0_1,.int .i64 a0_2,.slice A0_3 l0_3.length c0_3,.slice A0_4 l0_4.length c0_4,.bool a0_5,.bool a0_6]] w fun e w'=>e = .returned (.bool r)∧Below w.heap.size w w':=by
 have hu26:=Try.underlying26
 have hu57:=Try.underlying57
 have hu98:=Try.underlying98
 go_enter Try.func20,Try.ntmps20
 go_wp2_with (go_at_call 60;refine (keptValid_calls k a0_0 a0_1 a0_2 A0_3 c0_3 l0_3 A0_4 c0_4 l0_4 a0_5 a0_6 r _ (Kd.C_alloc hr0_3 _) hc0_3 (Kd.C_alloc hr0_4 _) hc0_4 h).mono ?_;rintro e W2 ⟨rfl,hb2⟩)
 go_ret
 exact ⟨rfl,below_step (below_alloc (Below.refl _ _) _) hb2⟩

/-! ### impl_idValid: function 70 -/
def impl_idValid.f (a0 : Int) : Option (Bool):=(impl_within.f a0 0 254).bind fun t217=>(some t217)
set_option maxHeartbeats 8000000 in
set_option maxRecDepth 100000 in
theorem impl_idValid.calls (a0 : Int) (r : Bool) (w : World) (h : impl_idValid.f a0=some r) :
  Calls Try.prog 70 #[.int .i64 a0] w fun e w'=>e = .returned (.bool r)∧Drawn0 w w':=by
 have H : ((impl_within.f a0 0 254).bind fun t217=>(some t217))=some r:=h
 clear h
 replace H:=Option.bind_eq_some_iff.mp H
 obtain ⟨t217,A20,H⟩:=H
 replace H : (some t217)=some r:=H
 have A2:=Aside0.mk A20
 clear A20
 obtain rfl:=Option.some.inj H
 go_enter Try.func70,Try.ntmps70
 go_wp2_with (first|((with_reducible refine gate_callee (f:=71) rfl ?_);refine goesL_ (some 4) rfl rfl Try.func71 (by kernel_rfl) rfl #[.int .i64 a0,.int .i64 0,.int .i64 254] rfl (by (try simp only [List.map_toArray,List.map_cons,List.map_nil]);first|done|rfl|(simp only [List.length_drop,List.length_take];rfl)) ?_;(with_reducible refine (impl_within.calls a0 0 254 t217 _ A2.out).mono ?_);rintro e w' ⟨rfl,⟨nd,rfl⟩⟩;refine ⟨_,rfl,?_⟩))
 go_ret
 exact ⟨by first|rfl|(simp;done)|(simp [*];done),by repeat (first|exact Drawn0.refl _|apply Drawn0.step)⟩

end Go.Proofs.Ytmpnedpokdaejaa.QFnExactOldTurn
