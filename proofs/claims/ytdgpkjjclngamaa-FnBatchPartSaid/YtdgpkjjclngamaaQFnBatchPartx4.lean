-- Written by this session's program wip/ownprint.py.
import Derived.Test.YtdgpkjjclngamaaQFnBatchPartx0
import Derived.Test.YtdgpkjjclngamaaQFnBatchPartx3
namespace Go.Proofs.Ytdgpkjjclngamaa.QFnBatchPart
open Go.RowKit Go.Proofs.YtdgpkjjclngamaaW.PrintWords Go.Proofs.YtdgpkjjclngamaaW.PrintLast Go.Proofs.YtdgpkjjclngamaaW.PrintMore
attribute [local go_sem] max2_int min2_int max_two min_two max_three min_three max_four min_four   -- for this text's walks alone
set_option linter.unusedVariables false
set_option linter.unusedSimpArgs false

/-! ### impl_partValid: function 57 -/
def impl_partValid.f (k : Nat) (a0 : Bool) (l1 : List Int) : Option (Bool):=if a0=true then (if (l1.length : Int) ≤ 12 then ((impl_allBytes.f k l1).bind fun t231=>(some t231)) else (some false)) else (some ((l1.length : Int) == 0))
theorem impl_partValid.mono : ∀ a0 a1 k,LeO (impl_partValid.f k a0 a1) (impl_partValid.f (k + 1) a0 a1):=by
 intro a0 a1 k
 unfold impl_partValid.f
 repeat' first
   | (with_reducible exact impl_allBytes.mono _ _)
   | (with_reducible exact LeO.refl _)
   | (with_reducible exact LeO.none _)
   | (with_reducible refine LeO.ite ?_ ?_)
   | (with_reducible refine LeO.bind ?_ (fun _=>?_))
   | exact impl_allBytes.mono _ _
   | exact LeO.none _
   | refine LeO.ite ?_ ?_
   | refine LeO.bind ?_ (fun _=>?_)
set_option maxHeartbeats 8000000 in
set_option maxRecDepth 100000 in
theorem impl_partValid.calls (k : Nat) (a0 : Bool) (A1 : Option Addr) (c1 : Nat) (l1 : List Int) (r : Bool) (w : World) (hr1 : Kd.C (Kd.int .i64) w A1 l1.length l1) (hc1 : l1.length ≤ c1) (h : impl_partValid.f k a0 l1=some r) :
  Calls Try.prog 57 #[.bool a0,.slice A1 l1.length c1] w fun e w'=>e = .returned (.bool r)∧Drawn0 w w':=by
 have HR1:=Aside0.mk hr1
 have HC1:=Aside0.mk hc1
 clear hr1 hc1
 have H : (if a0=true then (if (l1.length : Int) ≤ 12 then ((impl_allBytes.f k l1).bind fun t231=>(some t231)) else (some false)) else (some ((l1.length : Int) == 0)))=some r:=h
 clear h
 by_cases c3 : a0=true
 ·subst c3
  have H1 : (if (l1.length : Int) ≤ 12 then ((impl_allBytes.f k l1).bind fun t231=>(some t231)) else (some false))=some r:=by rw [if_pos rfl] at H;exact H
  clear H
  have H:=H1
  clear H1
  by_cases c4 : (l1.length : Int) ≤ 12
  ·rw [if_pos c4] at H
   have c4b0 : decide ((l1.length : Int) ≤ 12)=true:=decide_eq_true c4
   have c4b1 : decide (l1.length ≤ 12)=true:=decide_eq_true (by omega)
   clear c4
   replace H:=Option.bind_eq_some_iff.mp H
   obtain ⟨t231,A50,H⟩:=H
   replace H : (some t231)=some r:=H
   have A5:=Aside0.mk A50
   clear A50
   obtain rfl:=Option.some.inj H
   go_enter Try.func57,Try.ntmps57
   go_wp2_with (first|(go_at_call 60;(with_reducible refine (impl_allBytes.calls k _ _ l1 t231 _ ?side1 ?side2 A5.out).mono ?_);(case side1=>repeat (first|exact HR1.out|(with_reducible refine Kd.C_alloc ?_ _)|(with_reducible refine Kd.C_drewN ?_ _)|(with_reducible refine Kd.C_drew ?_)));(case side2=>exact HC1.out);rintro e w' ⟨rfl,⟨nd,rfl⟩⟩))
   go_ret
   exact ⟨by first|rfl|(simp;done)|(simp [*];done),by repeat (first|exact Drawn0.refl _|apply Drawn0.step)⟩
  ·rw [if_neg c4] at H
   have c4b0 : decide ((l1.length : Int) ≤ 12)=false:=decide_eq_false c4
   have c4b1 : decide (l1.length ≤ 12)=false:=decide_eq_false (by omega)
   clear c4
   obtain rfl:=Option.some.inj H
   go_enter Try.func57,Try.ntmps57
   go_wp2
   go_ret
   exact ⟨by first|rfl|(simp;done)|(simp [*];done),by repeat (first|exact Drawn0.refl _|apply Drawn0.step)⟩
 ·replace c3:=Bool.eq_false_iff.mpr c3
  subst c3
  have H1 : (some ((l1.length : Int) == 0))=some r:=by rw [if_neg (show ¬ (false=true) by decide)] at H;exact H
  clear H
  have H:=H1
  clear H1
  obtain rfl:=Option.some.inj H
  go_enter Try.func57,Try.ntmps57
  go_wp2
  go_ret
  exact ⟨by first|rfl|(simp;done)|(simp [*];done),by repeat (first|exact Drawn0.refl _|apply Drawn0.step)⟩

/-! ### impl_RecordValid: function 18 -/
def impl_RecordValid.f (k : Nat) (a0_0 : Int) (a0_1 : Int) (a0_2 : Bool) (l0_3 : List Int) (a0_4 : Bool) (l0_5 : List Int) : Option (Bool):=(impl_baseValid.f a0_0 a0_1).bind fun t233=>(if t233=true then ((impl_partValid.f k a0_2 l0_3).bind fun t234=>(if t234=true then ((impl_partValid.f k a0_4 l0_5).bind fun t235=>(some t235)) else (some false))) else (some false))
theorem impl_RecordValid.mono : ∀ a0 a1 a2 a3 a4 a5 k,LeO (impl_RecordValid.f k a0 a1 a2 a3 a4 a5) (impl_RecordValid.f (k + 1) a0 a1 a2 a3 a4 a5):=by
 intro a0 a1 a2 a3 a4 a5 k
 unfold impl_RecordValid.f
 repeat' first
   | (with_reducible exact impl_partValid.mono _ _ _)
   | (with_reducible exact LeO.refl _)
   | (with_reducible exact LeO.none _)
   | (with_reducible refine LeO.ite ?_ ?_)
   | (with_reducible refine LeO.bind ?_ (fun _=>?_))
   | exact impl_partValid.mono _ _ _
   | exact LeO.none _
   | refine LeO.ite ?_ ?_
   | refine LeO.bind ?_ (fun _=>?_)
set_option maxHeartbeats 8000000 in
set_option maxRecDepth 100000 in
theorem impl_RecordValid.calls (k : Nat) (a0_0 : Int) (a0_1 : Int) (a0_2 : Bool) (A0_3 : Option Addr) (c0_3 : Nat) (l0_3 : List Int) (a0_4 : Bool) (A0_5 : Option Addr) (c0_5 : Nat) (l0_5 : List Int) (r : Bool) (w : World) (hr0_3 : Kd.C (Kd.int .i64) w A0_3 l0_3.length l0_3) (hc0_3 : l0_3.length ≤ c0_3) (hr0_5 : Kd.C (Kd.int .i64) w A0_5 l0_5.length l0_5) (hc0_5 : l0_5.length ≤ c0_5) (h : impl_RecordValid.f k a0_0 a0_1 a0_2 l0_3 a0_4 l0_5=some r) :
  Calls Try.prog 18 #[.agg #[.int .i64 a0_0,.int .i64 a0_1,.bool a0_2,.slice A0_3 l0_3.length c0_3,.bool a0_4,.slice A0_5 l0_5.length c0_5]] w fun e w'=>e = .returned (.bool r)∧Below w.heap.size w w':=by
 have hu27:=Try.underlying27
 have HR0_3:=Aside0.mk hr0_3
 have HC0_3:=Aside0.mk hc0_3
 clear hr0_3 hc0_3
 have HR0_5:=Aside0.mk hr0_5
 have HC0_5:=Aside0.mk hc0_5
 clear hr0_5 hc0_5
 have HB:=Aside0.mk (Below.refl w.heap.size w)
 have H : ((impl_baseValid.f a0_0 a0_1).bind fun t233=>(if t233=true then ((impl_partValid.f k a0_2 l0_3).bind fun t234=>(if t234=true then ((impl_partValid.f k a0_4 l0_5).bind fun t235=>(some t235)) else (some false))) else (some false)))=some r:=h
 clear h
 replace H:=Option.bind_eq_some_iff.mp H
 obtain ⟨t233,A20,H⟩:=H
 replace H : (if t233=true then ((impl_partValid.f k a0_2 l0_3).bind fun t234=>(if t234=true then ((impl_partValid.f k a0_4 l0_5).bind fun t235=>(some t235)) else (some false))) else (some false))=some r:=H
 have A2:=Aside0.mk A20
 clear A20
 by_cases c3 : t233=true
 ·subst c3
  have H1 : ((impl_partValid.f k a0_2 l0_3).bind fun t234=>(if t234=true then ((impl_partValid.f k a0_4 l0_5).bind fun t235=>(some t235)) else (some false)))=some r:=by rw [if_pos rfl] at H;exact H
  clear H
  have H:=H1
  clear H1
  replace H:=Option.bind_eq_some_iff.mp H
  obtain ⟨t234,A40,H⟩:=H
  replace H : (if t234=true then ((impl_partValid.f k a0_4 l0_5).bind fun t235=>(some t235)) else (some false))=some r:=H
  have A4:=Aside0.mk A40
  clear A40
  by_cases c5 : t234=true
  ·subst c5
   have H1 : ((impl_partValid.f k a0_4 l0_5).bind fun t235=>(some t235))=some r:=by rw [if_pos rfl] at H;exact H
   clear H
   have H:=H1
   clear H1
   replace H:=Option.bind_eq_some_iff.mp H
   obtain ⟨t235,A60,H⟩:=H
   replace H : (some t235)=some r:=H
   have A6:=Aside0.mk A60
   clear A60
   obtain rfl:=Option.some.inj H
   go_enter Try.func18,Try.ntmps18
   go_wp2_with (first|((with_reducible refine gate_dst (N:=1) rfl ?_);refine box_event ?hg (N:=1) ?hd (cs:=#[.int .i64 a0_0,.int .i64 a0_1,.bool a0_2,.slice A0_3 l0_3.length c0_3,.bool a0_4,.slice A0_5 l0_5.length c0_5]) (t:=27) ?hr ?_;(case hd=>rfl);(case hg=>rfl);(case hr=>first|(go_simp;done)|(go_simp;rfl));intro gb232 hg w7 hbox hb;have n0_:=Aside0.mk (below_step (by repeat (first|(with_reducible first|exact HB.out|apply below_alloc|apply pw_below_drewN|apply below_drew1)|exact HB.out)) hb);have n1_:=Aside0.mk (hbox);have n2_:=Aside0.mk ((by rw [hg];exact (below_size (by repeat (first|(with_reducible first|exact HB.out|apply below_alloc|apply pw_below_drewN|apply below_drew1)|exact HB.out))) : w.heap.size ≤ gb232));have n3_:=Aside0.mk ((by rw [hg];exact (below_size (by repeat (first|(with_reducible first|exact HB.out|apply below_alloc|apply pw_below_drewN|apply below_drew1)|exact HB.out))) : w.heap.size ≤ gb232));clear HB;have HB:=n0_;have BK232:=n1_;have GW232:=n2_;have GE232:=n3_;clear n0_ n1_ n2_ n3_;clear hb hbox hg;have hcz8_0 : w7.cell? ⟨gb232,0,none⟩ = some (.int .i64 a0_0):=(blk_cell BK232.out 0).trans rfl;have hcz8_1 : w7.cell? ⟨gb232,1,none⟩ = some (.int .i64 a0_1):=(blk_cell BK232.out 1).trans rfl;have hcz8_2 : w7.cell? ⟨gb232,2,none⟩ = some (.bool a0_2):=(blk_cell BK232.out 2).trans rfl;have hcz8_3 : w7.cell? ⟨gb232,3,none⟩ = some (.slice A0_3 l0_3.length c0_3):=(blk_cell BK232.out 3).trans rfl;have hcz8_4 : w7.cell? ⟨gb232,4,none⟩ = some (.bool a0_4):=(blk_cell BK232.out 4).trans rfl;have hcz8_5 : w7.cell? ⟨gb232,5,none⟩ = some (.slice A0_5 l0_5.length c0_5):=(blk_cell BK232.out 5).trans rfl;have hfz8_0:=blk_frozen BK232.out 0;have hfz8_1:=blk_frozen BK232.out 1;have hfz8_2:=blk_frozen BK232.out 2;have hfz8_3:=blk_frozen BK232.out 3;have hfz8_4:=blk_frozen BK232.out 4;have hfz8_5:=blk_frozen BK232.out 5)|((with_reducible refine gate_callee (f:=56) rfl ?_);refine goesL_ (some 7) rfl rfl Try.func56 (by kernel_rfl) rfl #[.int .i64 a0_0,.int .i64 a0_1] rfl (by (try simp only [List.map_toArray,List.map_cons,List.map_nil]);first|done|rfl|(simp only [List.length_drop,List.length_take];rfl)) ?_;(with_reducible refine (impl_baseValid.calls a0_0 a0_1 true _ A2.out).mono ?_);rintro e w' ⟨rfl,⟨nd,rfl⟩⟩;refine ⟨_,rfl,?_⟩)|(go_at_call 57;(with_reducible refine (impl_partValid.calls k a0_2 _ _ l0_3 true _ ?side1 ?side2 A4.out).mono ?_);(case side1=>repeat (first|exact (Kd.C_below HR0_3.out (by repeat (first|(with_reducible first|exact HB.out|apply below_alloc|apply pw_below_drewN|apply below_drew1|refine below_set ?_ GE232.out)|exact HB.out)))|(with_reducible refine Kd.C_alloc ?_ _)|(with_reducible refine Kd.C_drewN ?_ _)|(with_reducible refine Kd.C_drew ?_)));(case side2=>exact HC0_3.out);rintro e w' ⟨rfl,⟨nd,rfl⟩⟩)|(go_at_call 57;(with_reducible refine (impl_partValid.calls k a0_4 _ _ l0_5 t235 _ ?side1 ?side2 A6.out).mono ?_);(case side1=>repeat (first|exact (Kd.C_below HR0_5.out (by repeat (first|(with_reducible first|exact HB.out|apply below_alloc|apply pw_below_drewN|apply below_drew1|refine below_set ?_ GE232.out)|exact HB.out)))|(with_reducible refine Kd.C_alloc ?_ _)|(with_reducible refine Kd.C_drewN ?_ _)|(with_reducible refine Kd.C_drew ?_)));(case side2=>exact HC0_5.out);rintro e w' ⟨rfl,⟨nd,rfl⟩⟩))
   go_ret
   exact ⟨by first|rfl|(simp [errW_none,errW_some] <;> rfl)|(simp [*,errW_none,errW_some] <;> rfl),by repeat (first|(with_reducible first|exact HB.out|apply below_alloc|apply pw_below_drewN|apply below_drew1|refine below_set ?_ GE232.out)|exact HB.out)⟩
  ·replace c5:=Bool.eq_false_iff.mpr c5
   subst c5
   have H1 : (some false)=some r:=by rw [if_neg (show ¬ (false=true) by decide)] at H;exact H
   clear H
   have H:=H1
   clear H1
   obtain rfl:=Option.some.inj H
   go_enter Try.func18,Try.ntmps18
   go_wp2_with (first|((with_reducible refine gate_dst (N:=1) rfl ?_);refine box_event ?hg (N:=1) ?hd (cs:=#[.int .i64 a0_0,.int .i64 a0_1,.bool a0_2,.slice A0_3 l0_3.length c0_3,.bool a0_4,.slice A0_5 l0_5.length c0_5]) (t:=27) ?hr ?_;(case hd=>rfl);(case hg=>rfl);(case hr=>first|(go_simp;done)|(go_simp;rfl));intro gb232 hg w9 hbox hb;have n0_:=Aside0.mk (below_step (by repeat (first|(with_reducible first|exact HB.out|apply below_alloc|apply pw_below_drewN|apply below_drew1)|exact HB.out)) hb);have n1_:=Aside0.mk (hbox);have n2_:=Aside0.mk ((by rw [hg];exact (below_size (by repeat (first|(with_reducible first|exact HB.out|apply below_alloc|apply pw_below_drewN|apply below_drew1)|exact HB.out))) : w.heap.size ≤ gb232));have n3_:=Aside0.mk ((by rw [hg];exact (below_size (by repeat (first|(with_reducible first|exact HB.out|apply below_alloc|apply pw_below_drewN|apply below_drew1)|exact HB.out))) : w.heap.size ≤ gb232));clear HB;have HB:=n0_;have BK232:=n1_;have GW232:=n2_;have GE232:=n3_;clear n0_ n1_ n2_ n3_;clear hb hbox hg;have hcz10_0 : w9.cell? ⟨gb232,0,none⟩ = some (.int .i64 a0_0):=(blk_cell BK232.out 0).trans rfl;have hcz10_1 : w9.cell? ⟨gb232,1,none⟩ = some (.int .i64 a0_1):=(blk_cell BK232.out 1).trans rfl;have hcz10_2 : w9.cell? ⟨gb232,2,none⟩ = some (.bool a0_2):=(blk_cell BK232.out 2).trans rfl;have hcz10_3 : w9.cell? ⟨gb232,3,none⟩ = some (.slice A0_3 l0_3.length c0_3):=(blk_cell BK232.out 3).trans rfl;have hcz10_4 : w9.cell? ⟨gb232,4,none⟩ = some (.bool a0_4):=(blk_cell BK232.out 4).trans rfl;have hcz10_5 : w9.cell? ⟨gb232,5,none⟩ = some (.slice A0_5 l0_5.length c0_5):=(blk_cell BK232.out 5).trans rfl;have hfz10_0:=blk_frozen BK232.out 0;have hfz10_1:=blk_frozen BK232.out 1;have hfz10_2:=blk_frozen BK232.out 2;have hfz10_3:=blk_frozen BK232.out 3;have hfz10_4:=blk_frozen BK232.out 4;have hfz10_5:=blk_frozen BK232.out 5)|((with_reducible refine gate_callee (f:=56) rfl ?_);refine goesL_ (some 7) rfl rfl Try.func56 (by kernel_rfl) rfl #[.int .i64 a0_0,.int .i64 a0_1] rfl (by (try simp only [List.map_toArray,List.map_cons,List.map_nil]);first|done|rfl|(simp only [List.length_drop,List.length_take];rfl)) ?_;(with_reducible refine (impl_baseValid.calls a0_0 a0_1 true _ A2.out).mono ?_);rintro e w' ⟨rfl,⟨nd,rfl⟩⟩;refine ⟨_,rfl,?_⟩)|(go_at_call 57;(with_reducible refine (impl_partValid.calls k a0_2 _ _ l0_3 false _ ?side1 ?side2 A4.out).mono ?_);(case side1=>repeat (first|exact (Kd.C_below HR0_3.out (by repeat (first|(with_reducible first|exact HB.out|apply below_alloc|apply pw_below_drewN|apply below_drew1|refine below_set ?_ GE232.out)|exact HB.out)))|(with_reducible refine Kd.C_alloc ?_ _)|(with_reducible refine Kd.C_drewN ?_ _)|(with_reducible refine Kd.C_drew ?_)));(case side2=>exact HC0_3.out);rintro e w' ⟨rfl,⟨nd,rfl⟩⟩))
   go_ret
   exact ⟨by first|rfl|(simp [errW_none,errW_some] <;> rfl)|(simp [*,errW_none,errW_some] <;> rfl),by repeat (first|(with_reducible first|exact HB.out|apply below_alloc|apply pw_below_drewN|apply below_drew1|refine below_set ?_ GE232.out)|exact HB.out)⟩
 ·replace c3:=Bool.eq_false_iff.mpr c3
  subst c3
  have H1 : (some false)=some r:=by rw [if_neg (show ¬ (false=true) by decide)] at H;exact H
  clear H
  have H:=H1
  clear H1
  obtain rfl:=Option.some.inj H
  go_enter Try.func18,Try.ntmps18
  go_wp2_with (first|((with_reducible refine gate_dst (N:=1) rfl ?_);refine box_event ?hg (N:=1) ?hd (cs:=#[.int .i64 a0_0,.int .i64 a0_1,.bool a0_2,.slice A0_3 l0_3.length c0_3,.bool a0_4,.slice A0_5 l0_5.length c0_5]) (t:=27) ?hr ?_;(case hd=>rfl);(case hg=>rfl);(case hr=>first|(go_simp;done)|(go_simp;rfl));intro gb232 hg w11 hbox hb;have n0_:=Aside0.mk (below_step (by repeat (first|(with_reducible first|exact HB.out|apply below_alloc|apply pw_below_drewN|apply below_drew1)|exact HB.out)) hb);have n1_:=Aside0.mk (hbox);have n2_:=Aside0.mk ((by rw [hg];exact (below_size (by repeat (first|(with_reducible first|exact HB.out|apply below_alloc|apply pw_below_drewN|apply below_drew1)|exact HB.out))) : w.heap.size ≤ gb232));have n3_:=Aside0.mk ((by rw [hg];exact (below_size (by repeat (first|(with_reducible first|exact HB.out|apply below_alloc|apply pw_below_drewN|apply below_drew1)|exact HB.out))) : w.heap.size ≤ gb232));clear HB;have HB:=n0_;have BK232:=n1_;have GW232:=n2_;have GE232:=n3_;clear n0_ n1_ n2_ n3_;clear hb hbox hg;have hcz12_0 : w11.cell? ⟨gb232,0,none⟩ = some (.int .i64 a0_0):=(blk_cell BK232.out 0).trans rfl;have hcz12_1 : w11.cell? ⟨gb232,1,none⟩ = some (.int .i64 a0_1):=(blk_cell BK232.out 1).trans rfl;have hcz12_2 : w11.cell? ⟨gb232,2,none⟩ = some (.bool a0_2):=(blk_cell BK232.out 2).trans rfl;have hcz12_3 : w11.cell? ⟨gb232,3,none⟩ = some (.slice A0_3 l0_3.length c0_3):=(blk_cell BK232.out 3).trans rfl;have hcz12_4 : w11.cell? ⟨gb232,4,none⟩ = some (.bool a0_4):=(blk_cell BK232.out 4).trans rfl;have hcz12_5 : w11.cell? ⟨gb232,5,none⟩ = some (.slice A0_5 l0_5.length c0_5):=(blk_cell BK232.out 5).trans rfl;have hfz12_0:=blk_frozen BK232.out 0;have hfz12_1:=blk_frozen BK232.out 1;have hfz12_2:=blk_frozen BK232.out 2;have hfz12_3:=blk_frozen BK232.out 3;have hfz12_4:=blk_frozen BK232.out 4;have hfz12_5:=blk_frozen BK232.out 5)|((with_reducible refine gate_callee (f:=56) rfl ?_);refine goesL_ (some 7) rfl rfl Try.func56 (by kernel_rfl) rfl #[.int .i64 a0_0,.int .i64 a0_1] rfl (by (try simp only [List.map_toArray,List.map_cons,List.map_nil]);first|done|rfl|(simp only [List.length_drop,List.length_take];rfl)) ?_;(with_reducible refine (impl_baseValid.calls a0_0 a0_1 false _ A2.out).mono ?_);rintro e w' ⟨rfl,⟨nd,rfl⟩⟩;refine ⟨_,rfl,?_⟩))
  go_ret
  exact ⟨by first|rfl|(simp [errW_none,errW_some] <;> rfl)|(simp [*,errW_none,errW_some] <;> rfl),by repeat (first|(with_reducible first|exact HB.out|apply below_alloc|apply pw_below_drewN|apply below_drew1|refine below_set ?_ GE232.out)|exact HB.out)⟩

/-! ### impl_idValid: function 76 -/
def impl_idValid.f (a0 : Int) : Option (Bool):=(impl_within.f a0 0 254).bind fun t236=>(some t236)
set_option maxHeartbeats 8000000 in
set_option maxRecDepth 100000 in
theorem impl_idValid.calls (a0 : Int) (r : Bool) (w : World) (h : impl_idValid.f a0=some r) :
  Calls Try.prog 76 #[.int .i64 a0] w fun e w'=>e = .returned (.bool r)∧Drawn0 w w':=by
 have H : ((impl_within.f a0 0 254).bind fun t236=>(some t236))=some r:=h
 clear h
 replace H:=Option.bind_eq_some_iff.mp H
 obtain ⟨t236,A20,H⟩:=H
 replace H : (some t236)=some r:=H
 have A2:=Aside0.mk A20
 clear A20
 obtain rfl:=Option.some.inj H
 go_enter Try.func76,Try.ntmps76
 go_wp2_with (first|((with_reducible refine gate_callee (f:=77) rfl ?_);refine goesL_ (some 4) rfl rfl Try.func77 (by kernel_rfl) rfl #[.int .i64 a0,.int .i64 0,.int .i64 254] rfl (by (try simp only [List.map_toArray,List.map_cons,List.map_nil]);first|done|rfl|(simp only [List.length_drop,List.length_take];rfl)) ?_;(with_reducible refine (impl_within.calls a0 0 254 t236 _ A2.out).mono ?_);rintro e w' ⟨rfl,⟨nd,rfl⟩⟩;refine ⟨_,rfl,?_⟩))
 go_ret
 exact ⟨by first|rfl|(simp;done)|(simp [*];done),by repeat (first|exact Drawn0.refl _|apply Drawn0.step)⟩

end Go.Proofs.Ytdgpkjjclngamaa.QFnBatchPart
