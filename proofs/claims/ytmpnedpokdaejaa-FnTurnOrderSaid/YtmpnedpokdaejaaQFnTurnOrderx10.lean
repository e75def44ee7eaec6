-- Written by this session's program wip/ownprint.py.
import Derived.Test.YtmpnedpokdaejaaQFnTurnOrderx0
import Derived.Test.YtmpnedpokdaejaaQFnTurnOrderx4
import Derived.Test.YtmpnedpokdaejaaQFnTurnOrderx7
import Derived.Test.YtmpnedpokdaejaaQFnTurnOrderx8
import Derived.Test.YtmpnedpokdaejaaQFnTurnOrderx9
namespace Go.Proofs.Ytmpnedpokdaejaa.QFnTurnOrder
open Go.RowKit Go.Proofs.YtmpnedpokdaejaaW.PrintWords Go.Proofs.YtmpnedpokdaejaaW.PrintLast Go.Proofs.YtmpnedpokdaejaaW.PrintMore
attribute [local go_sem] max2_int min2_int max_two min_two max_three min_three max_four min_four   -- for this text's walks alone
set_option linter.unusedVariables false
set_option linter.unusedSimpArgs false

/-! ### laws_FnTurnOrder: function 9 -/
mutual
def laws_FnTurnOrder.j0 : Nat→List (S26)→Bool→Bool→Bool→Bool→Bool→Bool→Int→Int→Int→List (S57)→Bool→Bool→Int→Int→Int→List (S57)→Option (Bool)
 | 0,_,_,_,_,_,_,_,_,_,_,_,_,_,_,_,_,_=>none
 | k + 1,x3,x4,x6,x8,x50,x331000,x331001,x331002,x331003,x331004,x331005,x341000,x341001,x341002,x341003,x341004,x341005=>if x50=true then (if (x6 == x8)=true then ((laws_sameBatch.f k x331000 x331001 x331002 x331003 x331004 x331005 x341000 x341001 x341002 x341003 x341004 x341005).bind fun t342=>(some t342)) else (some false)) else (laws_FnTurnOrder.l0 k x3 x4 (([] : List (S26))) (wrap64 ((x3.length : Int) - 1)))
def laws_FnTurnOrder.l0 : Nat→List (S26)→Bool→List (S26)→Int→Option (Bool)
 | 0,_,_,_,_=>none
 | k + 1,x3,x4,x9,x10=>if x10 ≥ 0 then (if 0 ≤ x10 then (if x10 < (x3.length : Int) then (if x9.length < 1759218604441 then (laws_FnTurnOrder.l0 k x3 x4 (x9 ++ [(⟨(rd_T26 x3 x10).f0,(rd_T26 x3 x10).f1,(rd_T26 x3 x10).f2,(rd_T26 x3 x10).f3,(rd_T26 x3 x10).f4,(rd_T26 x3 x10).f5,(rd_T26 x3 x10).f6⟩ : S26)]) (wrap64 (x10 - 1))) else (none)) else (none)) else (none)) else ((impl_OldTurn.f k x9 x4).bind fun bt350=>(some (!bt350.2.2.2.2.2.2)))
end
def laws_FnTurnOrder.f (k : Nat) (l0 : List Int) : Option (Bool):=if (l0.length : Int) > 1048576 then (some true) else ((spec_DrawOldTurn.f k l0).bind fun bt317=>((impl_OldTurn.f k bt317.1 bt317.2).bind fun bt321=>((spec_OldTurn.f k bt317.1 bt317.2).bind fun bt331=>(if (bt321.2.2.2.2.2.2 != bt331.2.2.2.2.2.2)=true then (laws_FnTurnOrder.j0 k bt317.1 bt317.2 bt321.2.2.2.2.2.2 bt331.2.2.2.2.2.2 true bt321.1 bt321.2.1 bt321.2.2.1 bt321.2.2.2.1 bt321.2.2.2.2.1 bt321.2.2.2.2.2.1 bt331.1 bt331.2.1 bt331.2.2.1 bt331.2.2.2.1 bt331.2.2.2.2.1 bt331.2.2.2.2.2.1) else ((laws_sameBatch.f k bt321.1 bt321.2.1 bt321.2.2.1 bt321.2.2.2.1 bt321.2.2.2.2.1 bt321.2.2.2.2.2.1 bt331.1 bt331.2.1 bt331.2.2.1 bt331.2.2.2.1 bt331.2.2.2.2.1 bt331.2.2.2.2.2.1).bind fun t341=>(if t341=true then (if bt321.2.2.2.2.2.2=true then (laws_FnTurnOrder.j0 k bt317.1 bt317.2 bt321.2.2.2.2.2.2 bt331.2.2.2.2.2.2 (decide ((bt317.1.length : Int) < 2)) bt321.1 bt321.2.1 bt321.2.2.1 bt321.2.2.2.1 bt321.2.2.2.2.1 bt321.2.2.2.2.2.1 bt331.1 bt331.2.1 bt331.2.2.1 bt331.2.2.2.1 bt331.2.2.2.2.1 bt331.2.2.2.2.2.1) else (laws_FnTurnOrder.j0 k bt317.1 bt317.2 bt321.2.2.2.2.2.2 bt331.2.2.2.2.2.2 true bt321.1 bt321.2.1 bt321.2.2.1 bt321.2.2.2.1 bt321.2.2.2.2.1 bt321.2.2.2.2.2.1 bt331.1 bt331.2.1 bt331.2.2.1 bt331.2.2.2.1 bt331.2.2.2.2.1 bt331.2.2.2.2.2.1)) else (laws_FnTurnOrder.j0 k bt317.1 bt317.2 bt321.2.2.2.2.2.2 bt331.2.2.2.2.2.2 true bt321.1 bt321.2.1 bt321.2.2.1 bt321.2.2.2.1 bt321.2.2.2.2.1 bt321.2.2.2.2.2.1 bt331.1 bt331.2.1 bt331.2.2.1 bt331.2.2.2.1 bt331.2.2.2.2.1 bt331.2.2.2.2.2.1)))))))
theorem laws_FnTurnOrder.mono_l : ∀ k,(∀ y0 y1 y2 y3 y4 y5 y6 y7 y8 y9 y10 y11 y12 y13 y14 y15 y16,LeO (laws_FnTurnOrder.j0 k y0 y1 y2 y3 y4 y5 y6 y7 y8 y9 y10 y11 y12 y13 y14 y15 y16) (laws_FnTurnOrder.j0 (k + 1) y0 y1 y2 y3 y4 y5 y6 y7 y8 y9 y10 y11 y12 y13 y14 y15 y16))∧(∀ y0 y1 y2 y3,LeO (laws_FnTurnOrder.l0 k y0 y1 y2 y3) (laws_FnTurnOrder.l0 (k + 1) y0 y1 y2 y3))
 | 0=>⟨fun _ _ _ _ _ _ _ _ _ _ _ _ _ _ _ _ _ r h=>by simp [laws_FnTurnOrder.j0] at h,fun _ _ _ _ r h=>by simp [laws_FnTurnOrder.l0] at h⟩
 | k + 1=>by
  obtain ⟨ih0,ih1⟩:=laws_FnTurnOrder.mono_l k
  refine ⟨?_,?_⟩
  ·intro y0 y1 y2 y3 y4 y5 y6 y7 y8 y9 y10 y11 y12 y13 y14 y15 y16
   unfold laws_FnTurnOrder.j0
   repeat' first
   | (with_reducible exact ih0 _ _ _ _ _ _ _ _ _ _ _ _ _ _ _ _ _)
   | (with_reducible exact ih1 _ _ _ _)
   | (with_reducible exact impl_OldTurn.mono _ _ _)
   | (with_reducible exact laws_sameBatch.mono _ _ _ _ _ _ _ _ _ _ _ _ _)
   | (with_reducible exact spec_DrawOldTurn.mono _ _)
   | (with_reducible exact spec_OldTurn.mono _ _ _)
   | (with_reducible exact LeO.refl _)
   | (with_reducible exact LeO.none _)
   | (with_reducible refine LeO.ite ?_ ?_)
   | (with_reducible refine LeO.bind ?_ (fun _=>?_))
   | exact ih0 _ _ _ _ _ _ _ _ _ _ _ _ _ _ _ _ _
   | exact ih1 _ _ _ _
   | exact impl_OldTurn.mono _ _ _
   | exact laws_sameBatch.mono _ _ _ _ _ _ _ _ _ _ _ _ _
   | exact spec_DrawOldTurn.mono _ _
   | exact spec_OldTurn.mono _ _ _
   | exact LeO.none _
   | refine LeO.ite ?_ ?_
   | refine LeO.bind ?_ (fun _=>?_)
  ·intro y0 y1 y2 y3
   unfold laws_FnTurnOrder.l0
   repeat' first
   | (with_reducible exact ih0 _ _ _ _ _ _ _ _ _ _ _ _ _ _ _ _ _)
   | (with_reducible exact ih1 _ _ _ _)
   | (with_reducible exact impl_OldTurn.mono _ _ _)
   | (with_reducible exact laws_sameBatch.mono _ _ _ _ _ _ _ _ _ _ _ _ _)
   | (with_reducible exact spec_DrawOldTurn.mono _ _)
   | (with_reducible exact spec_OldTurn.mono _ _ _)
   | (with_reducible exact LeO.refl _)
   | (with_reducible exact LeO.none _)
   | (with_reducible refine LeO.ite ?_ ?_)
   | (with_reducible refine LeO.bind ?_ (fun _=>?_))
   | exact ih0 _ _ _ _ _ _ _ _ _ _ _ _ _ _ _ _ _
   | exact ih1 _ _ _ _
   | exact impl_OldTurn.mono _ _ _
   | exact laws_sameBatch.mono _ _ _ _ _ _ _ _ _ _ _ _ _
   | exact spec_DrawOldTurn.mono _ _
   | exact spec_OldTurn.mono _ _ _
   | exact LeO.none _
   | refine LeO.ite ?_ ?_
   | refine LeO.bind ?_ (fun _=>?_)
theorem laws_FnTurnOrder.mono : ∀ a0 k,LeO (laws_FnTurnOrder.f k a0) (laws_FnTurnOrder.f (k + 1) a0):=by
 intro a0 k
 obtain ⟨ih0,ih1⟩:=laws_FnTurnOrder.mono_l k
 unfold laws_FnTurnOrder.f
 repeat' first
   | (with_reducible exact ih0 _ _ _ _ _ _ _ _ _ _ _ _ _ _ _ _ _)
   | (with_reducible exact ih1 _ _ _ _)
   | (with_reducible exact impl_OldTurn.mono _ _ _)
   | (with_reducible exact laws_sameBatch.mono _ _ _ _ _ _ _ _ _ _ _ _ _)
   | (with_reducible exact spec_DrawOldTurn.mono _ _)
   | (with_reducible exact spec_OldTurn.mono _ _ _)
   | (with_reducible exact LeO.refl _)
   | (with_reducible exact LeO.none _)
   | (with_reducible refine LeO.ite ?_ ?_)
   | (with_reducible refine LeO.bind ?_ (fun _=>?_))
   | exact ih0 _ _ _ _ _ _ _ _ _ _ _ _ _ _ _ _ _
   | exact ih1 _ _ _ _
   | exact impl_OldTurn.mono _ _ _
   | exact laws_sameBatch.mono _ _ _ _ _ _ _ _ _ _ _ _ _
   | exact spec_DrawOldTurn.mono _ _
   | exact spec_OldTurn.mono _ _ _
   | exact LeO.none _
   | refine LeO.ite ?_ ?_
   | refine LeO.bind ?_ (fun _=>?_)
set_option maxHeartbeats 8000000 in
set_option maxRecDepth 100000 in
theorem laws_FnTurnOrder.calls (k : Nat) (A0 : Option Addr) (c0 : Nat) (l0 : List Int) (r : Bool) (w : World) (hr0 : Kd.C (Kd.int .u8) w A0 l0.length l0) (hc0 : l0.length ≤ c0) (h : laws_FnTurnOrder.f k l0=some r) :
  Calls Try.prog 9 #[.slice A0 l0.length c0] w fun e w'=>e = .returned (.bool r)∧Below w.heap.size w w':=by
 have hu39:=Try.underlying39
 have hu26:=Try.underlying26
 have HR0:=Aside0.mk hr0
 have HC0:=Aside0.mk hc0
 clear hr0 hc0
 have HB:=Aside0.mk (Below.refl w.heap.size w)
 have H : (if (l0.length : Int) > 1048576 then (some true) else ((spec_DrawOldTurn.f k l0).bind fun bt317=>((impl_OldTurn.f k bt317.1 bt317.2).bind fun bt321=>((spec_OldTurn.f k bt317.1 bt317.2).bind fun bt331=>(if (bt321.2.2.2.2.2.2 != bt331.2.2.2.2.2.2)=true then (laws_FnTurnOrder.j0 k bt317.1 bt317.2 bt321.2.2.2.2.2.2 bt331.2.2.2.2.2.2 true bt321.1 bt321.2.1 bt321.2.2.1 bt321.2.2.2.1 bt321.2.2.2.2.1 bt321.2.2.2.2.2.1 bt331.1 bt331.2.1 bt331.2.2.1 bt331.2.2.2.1 bt331.2.2.2.2.1 bt331.2.2.2.2.2.1) else ((laws_sameBatch.f k bt321.1 bt321.2.1 bt321.2.2.1 bt321.2.2.2.1 bt321.2.2.2.2.1 bt321.2.2.2.2.2.1 bt331.1 bt331.2.1 bt331.2.2.1 bt331.2.2.2.1 bt331.2.2.2.2.1 bt331.2.2.2.2.2.1).bind fun t341=>(if t341=true then (if bt321.2.2.2.2.2.2=true then (laws_FnTurnOrder.j0 k bt317.1 bt317.2 bt321.2.2.2.2.2.2 bt331.2.2.2.2.2.2 (decide ((bt317.1.length : Int) < 2)) bt321.1 bt321.2.1 bt321.2.2.1 bt321.2.2.2.1 bt321.2.2.2.2.1 bt321.2.2.2.2.2.1 bt331.1 bt331.2.1 bt331.2.2.1 bt331.2.2.2.1 bt331.2.2.2.2.1 bt331.2.2.2.2.2.1) else (laws_FnTurnOrder.j0 k bt317.1 bt317.2 bt321.2.2.2.2.2.2 bt331.2.2.2.2.2.2 true bt321.1 bt321.2.1 bt321.2.2.1 bt321.2.2.2.1 bt321.2.2.2.2.1 bt321.2.2.2.2.2.1 bt331.1 bt331.2.1 bt331.2.2.1 bt331.2.2.2.1 bt331.2.2.2.2.1 bt331.2.2.2.2.2.1)) else (laws_FnTurnOrder.j0 k bt317.1 bt317.2 bt321.2.2.2.2.2.2 bt331.2.2.2.2.2.2 true bt321.1 bt321.2.1 bt321.2.2.1 bt321.2.2.2.1 bt321.2.2.2.2.1 bt321.2.2.2.2.2.1 bt331.1 bt331.2.1 bt331.2.2.1 bt331.2.2.2.1 bt331.2.2.2.2.1 bt331.2.2.2.2.2.1))))))))=some r:=h
 clear h
 by_cases c2 : (l0.length : Int) > 1048576
 ·rw [if_pos c2] at H
  have c2b0 : decide (1048576 < (l0.length : Int))=true:=decide_eq_true c2
  have c2b1 : decide (1048576 < l0.length)=true:=decide_eq_true (by omega)
  clear c2
  obtain rfl:=Option.some.inj H
  go_enter Try.func9,Try.ntmps9
  go_wp2
  go_ret
  exact ⟨by first|rfl|(simp [errW_none,errW_some] <;> rfl)|(simp [*,errW_none,errW_some] <;> rfl),by repeat (first|(with_reducible first|exact HB.out|apply below_alloc|apply pw_below_drewN|apply below_drew1)|exact HB.out)⟩
 ·rw [if_neg c2] at H
  have c2b0 : decide (1048576 < (l0.length : Int))=false:=decide_eq_false c2
  have c2b1 : decide (1048576 < l0.length)=false:=decide_eq_false (by omega)
  clear c2
  replace H:=Option.bind_eq_some_iff.mp H
  obtain ⟨⟨t317,t318⟩,A30,H⟩:=H
  replace H : ((impl_OldTurn.f k t317 t318).bind fun bt321=>((spec_OldTurn.f k t317 t318).bind fun bt331=>(if (bt321.2.2.2.2.2.2 != bt331.2.2.2.2.2.2)=true then (laws_FnTurnOrder.j0 k t317 t318 bt321.2.2.2.2.2.2 bt331.2.2.2.2.2.2 true bt321.1 bt321.2.1 bt321.2.2.1 bt321.2.2.2.1 bt321.2.2.2.2.1 bt321.2.2.2.2.2.1 bt331.1 bt331.2.1 bt331.2.2.1 bt331.2.2.2.1 bt331.2.2.2.2.1 bt331.2.2.2.2.2.1) else ((laws_sameBatch.f k bt321.1 bt321.2.1 bt321.2.2.1 bt321.2.2.2.1 bt321.2.2.2.2.1 bt321.2.2.2.2.2.1 bt331.1 bt331.2.1 bt331.2.2.1 bt331.2.2.2.1 bt331.2.2.2.2.1 bt331.2.2.2.2.2.1).bind fun t341=>(if t341=true then (if bt321.2.2.2.2.2.2=true then (laws_FnTurnOrder.j0 k t317 t318 bt321.2.2.2.2.2.2 bt331.2.2.2.2.2.2 (decide ((t317.length : Int) < 2)) bt321.1 bt321.2.1 bt321.2.2.1 bt321.2.2.2.1 bt321.2.2.2.2.1 bt321.2.2.2.2.2.1 bt331.1 bt331.2.1 bt331.2.2.1 bt331.2.2.2.1 bt331.2.2.2.2.1 bt331.2.2.2.2.2.1) else (laws_FnTurnOrder.j0 k t317 t318 bt321.2.2.2.2.2.2 bt331.2.2.2.2.2.2 true bt321.1 bt321.2.1 bt321.2.2.1 bt321.2.2.2.1 bt321.2.2.2.2.1 bt321.2.2.2.2.2.1 bt331.1 bt331.2.1 bt331.2.2.1 bt331.2.2.2.1 bt331.2.2.2.2.1 bt331.2.2.2.2.2.1)) else (laws_FnTurnOrder.j0 k t317 t318 bt321.2.2.2.2.2.2 bt331.2.2.2.2.2.2 true bt321.1 bt321.2.1 bt321.2.2.1 bt321.2.2.2.1 bt321.2.2.2.2.1 bt321.2.2.2.2.2.1 bt331.1 bt331.2.1 bt331.2.2.1 bt331.2.2.2.1 bt331.2.2.2.2.1 bt331.2.2.2.2.2.1))))))=some r:=H
  have A3:=Aside0.mk A30
  clear A30
  replace H:=Option.bind_eq_some_iff.mp H
  obtain ⟨⟨t321,t322,t323,t324,t325,t326,t329⟩,A40,H⟩:=H
  replace H : ((spec_OldTurn.f k t317 t318).bind fun bt331=>(if (t329 != bt331.2.2.2.2.2.2)=true then (laws_FnTurnOrder.j0 k t317 t318 t329 bt331.2.2.2.2.2.2 true t321 t322 t323 t324 t325 t326 bt331.1 bt331.2.1 bt331.2.2.1 bt331.2.2.2.1 bt331.2.2.2.2.1 bt331.2.2.2.2.2.1) else ((laws_sameBatch.f k t321 t322 t323 t324 t325 t326 bt331.1 bt331.2.1 bt331.2.2.1 bt331.2.2.2.1 bt331.2.2.2.2.1 bt331.2.2.2.2.2.1).bind fun t341=>(if t341=true then (if t329=true then (laws_FnTurnOrder.j0 k t317 t318 t329 bt331.2.2.2.2.2.2 (decide ((t317.length : Int) < 2)) t321 t322 t323 t324 t325 t326 bt331.1 bt331.2.1 bt331.2.2.1 bt331.2.2.2.1 bt331.2.2.2.2.1 bt331.2.2.2.2.2.1) else (laws_FnTurnOrder.j0 k t317 t318 t329 bt331.2.2.2.2.2.2 true t321 t322 t323 t324 t325 t326 bt331.1 bt331.2.1 bt331.2.2.1 bt331.2.2.2.1 bt331.2.2.2.2.1 bt331.2.2.2.2.2.1)) else (laws_FnTurnOrder.j0 k t317 t318 t329 bt331.2.2.2.2.2.2 true t321 t322 t323 t324 t325 t326 bt331.1 bt331.2.1 bt331.2.2.1 bt331.2.2.2.1 bt331.2.2.2.2.1 bt331.2.2.2.2.2.1)))))=some r:=H
  have A4:=Aside0.mk A40
  clear A40
  replace H:=Option.bind_eq_some_iff.mp H
  obtain ⟨⟨t331,t332,t333,t334,t335,t336,t339⟩,A50,H⟩:=H
  replace H : (if (t329 != t339)=true then (laws_FnTurnOrder.j0 k t317 t318 t329 t339 true t321 t322 t323 t324 t325 t326 t331 t332 t333 t334 t335 t336) else ((laws_sameBatch.f k t321 t322 t323 t324 t325 t326 t331 t332 t333 t334 t335 t336).bind fun t341=>(if t341=true then (if t329=true then (laws_FnTurnOrder.j0 k t317 t318 t329 t339 (decide ((t317.length : Int) < 2)) t321 t322 t323 t324 t325 t326 t331 t332 t333 t334 t335 t336) else (laws_FnTurnOrder.j0 k t317 t318 t329 t339 true t321 t322 t323 t324 t325 t326 t331 t332 t333 t334 t335 t336)) else (laws_FnTurnOrder.j0 k t317 t318 t329 t339 true t321 t322 t323 t324 t325 t326 t331 t332 t333 t334 t335 t336))))=some r:=H
  have A5:=Aside0.mk A50
  clear A50
  have HC6:=Aside0.mk H
  clear H
  go_enter Try.func9,Try.ntmps9
  go_upto_region 6 with (first|((with_reducible refine gate_callee (f:=36) rfl ?_);refine goesL_ (some 18) rfl rfl Try.func36 (by kernel_rfl) rfl #[.slice A0 l0.length c0] rfl (by (try simp only [List.map_toArray,List.map_cons,List.map_nil]);first|done|rfl|(simp only [List.length_drop,List.length_take];rfl)) ?_;(with_reducible refine (spec_DrawOldTurn.calls k _ _ l0 t317 t318 _ ?side1 ?side2 A3.out).mono ?_);(case side1=>repeat (first|exact HR0.out|(with_reducible refine Kd.C_alloc ?_ _)|(with_reducible refine Kd.C_drewN ?_ _)|(with_reducible refine Kd.C_drew ?_)));(case side2=>exact HC0.out);rintro e w7 ⟨v319,rfl,ho0,hb⟩;refine ⟨_,rfl,?_⟩;have n0_:=Aside0.mk (Kd.N_lower (Kd.N_mono (ok':=fun k_=>True) (Kd.S_N (Kd.S_bound ho0)) (fun k_ hk_=>trivial)) (below_size (by repeat (first|(with_reducible first|exact HB.out|apply below_alloc|apply pw_below_drewN|apply below_drew1)|exact HB.out))));have n1_:=Aside0.mk (below_step (by repeat (first|(with_reducible first|exact HB.out|apply below_alloc|apply pw_below_drewN|apply below_drew1)|exact HB.out)) hb);clear HB;have HO320:=n0_;have HB:=n1_;clear n0_ n1_;(try clear hb);(try clear hb2);(try clear hk);(try clear hi);(try clear ho0);obtain ⟨Ao8,co8,eo8⟩:=Kd.N_slice HO320.out;subst eo8)|((with_reducible refine gate_callee (f:=25) rfl ?_);refine goesL_ (some 24) rfl rfl Try.func25 (by kernel_rfl) rfl #[.slice Ao8 t317.length co8,.bool t318] rfl (by (try simp only [List.map_toArray,List.map_cons,List.map_nil]);first|done|rfl|(simp only [List.length_drop,List.length_take];rfl)) ?_;(with_reducible refine (impl_OldTurn.calls k _ _ t317 t318 t321 t322 t323 t324 t325 t326 t329 _ ?side1 ?side2 A4.out).mono ?_);(case side1=>repeat (first|exact (Kd.N_reads' HO320.out).2.2|(with_reducible refine Kd.C_alloc ?_ _)|(with_reducible refine Kd.C_drewN ?_ _)|(with_reducible refine Kd.C_drew ?_)));(case side2=>exact (Kd.N_reads' HO320.out).2.1);rintro e w9 ⟨v327,rfl,ho0,hb⟩;refine ⟨_,rfl,?_⟩;have n0_:=Aside0.mk (Kd.N_elder' (by (with_reducible repeat (first|apply Kd.N_alloc|apply Kd.N_drewN|apply Kd.N_drew));exact HO320.out) (by first|exact Kd.N_base ho0|exact Kd.N_base (Kd.S_N (Kd.S_bound ho0))) hb);have n1_:=Aside0.mk (Kd.N_lower (Kd.N_mono (ok':=fun k_=>some k_ ≠ (.slice Ao8 t317.length co8 : Value).ownBlock) (Kd.S_N (Kd.S_bound ho0)) (fun k_ hk_=>(Kd.fresh' (Kd.N_lt (by (with_reducible repeat (first|apply Kd.N_alloc|apply Kd.N_drewN|apply Kd.N_drew));exact HO320.out)) k_ hk_.2.1))) (below_size (by repeat (first|(with_reducible first|exact HB.out|apply below_alloc|apply pw_below_drewN|apply below_drew1)|exact HB.out))));have n2_:=Aside0.mk (below_step (by repeat (first|(with_reducible first|exact HB.out|apply below_alloc|apply pw_below_drewN|apply below_drew1)|exact HB.out)) hb);clear HO320;clear HB;have HO320:=n0_;have HO328:=n1_;have HB:=n2_;clear n0_ n1_ n2_;(try clear hb);(try clear hb2);(try clear hk);(try clear hi);(try clear ho0))|((with_reducible refine gate_dst (N:=5) rfl ?_);(try (refine gate_guard (by rfl) ?_;dsimp only));refine box_event ?hg (N:=5) ?hd (cs:=#[.bool false,.bool false,.int .i64 0,.int .i64 0,.int .i64 0,.slice none 0 0]) (t:=39) ?hr ?_;(case hd=>rfl);(case hg=>rfl);(case hr=>first|(go_simp;done)|(go_simp;rfl));intro gb330 hg w10 hbox hb;have n0_:=Aside0.mk (Kd.N_below (Kd.N_elderB (by (with_reducible repeat (first|apply Kd.N_alloc|apply Kd.N_drewN|apply Kd.N_drew));exact HO320.out) gb330 (Nat.le_of_eq hg.symm)) hb);have n1_:=Aside0.mk (Kd.N_below (Kd.N_elderB (by (with_reducible repeat (first|apply Kd.N_alloc|apply Kd.N_drewN|apply Kd.N_drew));exact HO328.out) gb330 (Nat.le_of_eq hg.symm)) hb);have n2_:=Aside0.mk (below_step (by repeat (first|(with_reducible first|exact HB.out|apply below_alloc|apply pw_below_drewN|apply below_drew1)|exact HB.out)) hb);have n3_:=Aside0.mk (hbox);have n4_:=Aside0.mk ((by rw [hg];exact (below_size (by repeat (first|(with_reducible first|exact HB.out|apply below_alloc|apply pw_below_drewN|apply below_drew1)|exact HB.out))) : w.heap.size ≤ gb330));have n5_:=Aside0.mk ((by rw [hg];exact (below_size (by repeat (first|(with_reducible first|exact HB.out|apply below_alloc|apply pw_below_drewN|apply below_drew1)|exact HB.out))) : w.heap.size ≤ gb330));clear HO320;clear HO328;clear HB;have HO320:=n0_;have HO328:=n1_;have HB:=n2_;have BK330:=n3_;have GW330:=n4_;have GE330:=n5_;clear n0_ n1_ n2_ n3_ n4_ n5_;clear hb hbox hg;have hcz11_0 : w10.cell? ⟨gb330,0,none⟩ = some (.bool false):=(blk_cell BK330.out 0).trans rfl;have hcz11_1 : w10.cell? ⟨gb330,1,none⟩ = some (.bool false):=(blk_cell BK330.out 1).trans rfl;have hcz11_2 : w10.cell? ⟨gb330,2,none⟩ = some (.int .i64 0):=(blk_cell BK330.out 2).trans rfl;have hcz11_3 : w10.cell? ⟨gb330,3,none⟩ = some (.int .i64 0):=(blk_cell BK330.out 3).trans rfl;have hcz11_4 : w10.cell? ⟨gb330,4,none⟩ = some (.int .i64 0):=(blk_cell BK330.out 4).trans rfl;have hcz11_5 : w10.cell? ⟨gb330,5,none⟩ = some (.slice none 0 0):=(blk_cell BK330.out 5).trans rfl;have hfz11_0:=blk_frozen BK330.out 0;have hfz11_1:=blk_frozen BK330.out 1;have hfz11_2:=blk_frozen BK330.out 2;have hfz11_3:=blk_frozen BK330.out 3;have hfz11_4:=blk_frozen BK330.out 4;have hfz11_5:=blk_frozen BK330.out 5;obtain ⟨Ao12,co12,eo12⟩:=Kd.N_slice HO328.out;subst eo12)|((with_reducible refine gate_callee (f:=23) rfl ?_);refine goesL_ (some 30) rfl rfl Try.func23 (by kernel_rfl) rfl #[.slice Ao8 t317.length co8,.bool t318] rfl (by (try simp only [List.map_toArray,List.map_cons,List.map_nil]);first|done|rfl|(simp only [List.length_drop,List.length_take];rfl)) ?_;(with_reducible refine (spec_OldTurn.calls k _ _ t317 t318 t331 t332 t333 t334 t335 t336 t339 _ ?side1 ?side2 A5.out).mono ?_);(case side1=>refine (Kd.N_reads' (e:=26) (base:=w.heap.size) (ok:=fun k_=>((True∧some k_ ≠ (.slice Ao12 t326.length co12 : Value).ownBlock)∧k_ ≠ gb330)) (n:=t317.length) (c:=co8) ?_).2.2;exact (by (with_reducible repeat (first|apply Kd.N_alloc|apply Kd.N_drewN|apply Kd.N_drew));exact (Kd.N_mono (Kd.N_far (p:=⟨gb330,5,none⟩) (Kd.N_far (p:=⟨gb330,4,none⟩) (Kd.N_far (p:=⟨gb330,3,none⟩) (Kd.N_far (p:=⟨gb330,2,none⟩) (Kd.N_far (p:=⟨gb330,1,none⟩) (Kd.N_far (p:=⟨gb330,0,none⟩) (Kd.N_mono HO320.out (fun k_ hk=>(⟨hk,hk.2⟩ : _∧k_ ≠ gb330))) (fun _ hk=>hk.2) (.bool t321)) (fun _ hk=>hk.2) (.bool t322)) (fun _ hk=>hk.2) (.int .i64 t323)) (fun _ hk=>hk.2) (.int .i64 t324)) (fun _ hk=>hk.2) (.int .i64 t325)) (fun _ hk=>hk.2) (.slice Ao12 t326.length co12)) (fun _ h_=>h_.1))));(case side2=>exact (Kd.N_reads' HO320.out).2.1);rintro e w13 ⟨v337,rfl,ho0,hb⟩;refine ⟨_,rfl,?_⟩;have n0_:=Aside0.mk (Kd.N_elder' (by (with_reducible repeat (first|apply Kd.N_alloc|apply Kd.N_drewN|apply Kd.N_drew));exact (Kd.N_mono (Kd.N_far (p:=⟨gb330,5,none⟩) (Kd.N_far (p:=⟨gb330,4,none⟩) (Kd.N_far (p:=⟨gb330,3,none⟩) (Kd.N_far (p:=⟨gb330,2,none⟩) (Kd.N_far (p:=⟨gb330,1,none⟩) (Kd.N_far (p:=⟨gb330,0,none⟩) (Kd.N_mono HO320.out (fun k_ hk=>(⟨hk,hk.2⟩ : _∧k_ ≠ gb330))) (fun _ hk=>hk.2) (.bool t321)) (fun _ hk=>hk.2) (.bool t322)) (fun _ hk=>hk.2) (.int .i64 t323)) (fun _ hk=>hk.2) (.int .i64 t324)) (fun _ hk=>hk.2) (.int .i64 t325)) (fun _ hk=>hk.2) (.slice Ao12 t326.length co12)) (fun _ h_=>h_.1))) (by first|exact Kd.N_base ho0|exact Kd.N_base (Kd.S_N (Kd.S_bound ho0))) hb);have n1_:=Aside0.mk (Kd.N_elder' (by (with_reducible repeat (first|apply Kd.N_alloc|apply Kd.N_drewN|apply Kd.N_drew));exact (Kd.N_mono (Kd.N_far (p:=⟨gb330,5,none⟩) (Kd.N_far (p:=⟨gb330,4,none⟩) (Kd.N_far (p:=⟨gb330,3,none⟩) (Kd.N_far (p:=⟨gb330,2,none⟩) (Kd.N_far (p:=⟨gb330,1,none⟩) (Kd.N_far (p:=⟨gb330,0,none⟩) (Kd.N_mono HO328.out (fun k_ hk=>(⟨hk,hk.2⟩ : _∧k_ ≠ gb330))) (fun _ hk=>hk.2) (.bool t321)) (fun _ hk=>hk.2) (.bool t322)) (fun _ hk=>hk.2) (.int .i64 t323)) (fun _ hk=>hk.2) (.int .i64 t324)) (fun _ hk=>hk.2) (.int .i64 t325)) (fun _ hk=>hk.2) (.slice Ao12 t326.length co12)) (fun _ h_=>h_.1))) (by first|exact Kd.N_base ho0|exact Kd.N_base (Kd.S_N (Kd.S_bound ho0))) hb);have n2_:=Aside0.mk (Kd.N_lower (Kd.N_mono (ok':=fun k_=>some k_ ≠ (.slice Ao8 t317.length co8 : Value).ownBlock∧some k_ ≠ (.slice Ao12 t326.length co12 : Value).ownBlock∧k_ ≠ gb330) (Kd.S_N (Kd.S_bound ho0)) (fun k_ hk_=>⟨(Kd.fresh' (Kd.N_lt (by (with_reducible repeat (first|apply Kd.N_alloc|apply Kd.N_drewN|apply Kd.N_drew));exact (Kd.N_mono (Kd.N_far (p:=⟨gb330,5,none⟩) (Kd.N_far (p:=⟨gb330,4,none⟩) (Kd.N_far (p:=⟨gb330,3,none⟩) (Kd.N_far (p:=⟨gb330,2,none⟩) (Kd.N_far (p:=⟨gb330,1,none⟩) (Kd.N_far (p:=⟨gb330,0,none⟩) (Kd.N_mono HO320.out (fun k_ hk=>(⟨hk,hk.2⟩ : _∧k_ ≠ gb330))) (fun _ hk=>hk.2) (.bool t321)) (fun _ hk=>hk.2) (.bool t322)) (fun _ hk=>hk.2) (.int .i64 t323)) (fun _ hk=>hk.2) (.int .i64 t324)) (fun _ hk=>hk.2) (.int .i64 t325)) (fun _ hk=>hk.2) (.slice Ao12 t326.length co12)) (fun _ h_=>h_.1)))) k_ hk_.2.1),(Kd.fresh' (Kd.N_lt (by (with_reducible repeat (first|apply Kd.N_alloc|apply Kd.N_drewN|apply Kd.N_drew));exact (Kd.N_mono (Kd.N_far (p:=⟨gb330,5,none⟩) (Kd.N_far (p:=⟨gb330,4,none⟩) (Kd.N_far (p:=⟨gb330,3,none⟩) (Kd.N_far (p:=⟨gb330,2,none⟩) (Kd.N_far (p:=⟨gb330,1,none⟩) (Kd.N_far (p:=⟨gb330,0,none⟩) (Kd.N_mono HO328.out (fun k_ hk=>(⟨hk,hk.2⟩ : _∧k_ ≠ gb330))) (fun _ hk=>hk.2) (.bool t321)) (fun _ hk=>hk.2) (.bool t322)) (fun _ hk=>hk.2) (.int .i64 t323)) (fun _ hk=>hk.2) (.int .i64 t324)) (fun _ hk=>hk.2) (.int .i64 t325)) (fun _ hk=>hk.2) (.slice Ao12 t326.length co12)) (fun _ h_=>h_.1)))) k_ hk_.2.1),(Kd.freshB (g:=gb330) (o:=.cells #[.bool t321,.bool t322,.int .i64 t323,.int .i64 t324,.int .i64 t325,.slice Ao12 t326.length co12] 39 (0,0)) (by (with_reducible repeat (first|refine blk_drewN ?_ _|refine blk_drew ?_|refine blk_alloc ?_ _));refine blk_put (cs:=#[.bool t321,.bool t322,.int .i64 t323,.int .i64 t324,.int .i64 t325,.slice none 0 0]) ?_ 5 _ rfl;(with_reducible repeat (first|refine blk_drewN ?_ _|refine blk_drew ?_|refine blk_alloc ?_ _));refine blk_put (cs:=#[.bool t321,.bool t322,.int .i64 t323,.int .i64 t324,.int .i64 0,.slice none 0 0]) ?_ 4 _ rfl;(with_reducible repeat (first|refine blk_drewN ?_ _|refine blk_drew ?_|refine blk_alloc ?_ _));refine blk_put (cs:=#[.bool t321,.bool t322,.int .i64 t323,.int .i64 0,.int .i64 0,.slice none 0 0]) ?_ 3 _ rfl;(with_reducible repeat (first|refine blk_drewN ?_ _|refine blk_drew ?_|refine blk_alloc ?_ _));refine blk_put (cs:=#[.bool t321,.bool t322,.int .i64 0,.int .i64 0,.int .i64 0,.slice none 0 0]) ?_ 2 _ rfl;(with_reducible repeat (first|refine blk_drewN ?_ _|refine blk_drew ?_|refine blk_alloc ?_ _));refine blk_put (cs:=#[.bool t321,.bool false,.int .i64 0,.int .i64 0,.int .i64 0,.slice none 0 0]) ?_ 1 _ rfl;(with_reducible repeat (first|refine blk_drewN ?_ _|refine blk_drew ?_|refine blk_alloc ?_ _));refine blk_put (cs:=#[.bool false,.bool false,.int .i64 0,.int .i64 0,.int .i64 0,.slice none 0 0]) ?_ 0 _ rfl;(with_reducible repeat (first|refine blk_drewN ?_ _|refine blk_drew ?_|refine blk_alloc ?_ _));exact BK330.out) k_ hk_.2.1)⟩)) (below_size (by repeat (first|(with_reducible first|exact HB.out|apply below_alloc|apply pw_below_drewN|apply below_drew1|refine below_set ?_ GE330.out)|exact HB.out))));have n3_:=Aside0.mk (blk_below (g:=gb330) (o:=.cells #[.bool t321,.bool t322,.int .i64 t323,.int .i64 t324,.int .i64 t325,.slice Ao12 t326.length co12] 39 (0,0)) (by (with_reducible repeat (first|refine blk_drewN ?_ _|refine blk_drew ?_|refine blk_alloc ?_ _));refine blk_put (cs:=#[.bool t321,.bool t322,.int .i64 t323,.int .i64 t324,.int .i64 t325,.slice none 0 0]) ?_ 5 _ rfl;(with_reducible repeat (first|refine blk_drewN ?_ _|refine blk_drew ?_|refine blk_alloc ?_ _));refine blk_put (cs:=#[.bool t321,.bool t322,.int .i64 t323,.int .i64 t324,.int .i64 0,.slice none 0 0]) ?_ 4 _ rfl;(with_reducible repeat (first|refine blk_drewN ?_ _|refine blk_drew ?_|refine blk_alloc ?_ _));refine blk_put (cs:=#[.bool t321,.bool t322,.int .i64 t323,.int .i64 0,.int .i64 0,.slice none 0 0]) ?_ 3 _ rfl;(with_reducible repeat (first|refine blk_drewN ?_ _|refine blk_drew ?_|refine blk_alloc ?_ _));refine blk_put (cs:=#[.bool t321,.bool t322,.int .i64 0,.int .i64 0,.int .i64 0,.slice none 0 0]) ?_ 2 _ rfl;(with_reducible repeat (first|refine blk_drewN ?_ _|refine blk_drew ?_|refine blk_alloc ?_ _));refine blk_put (cs:=#[.bool t321,.bool false,.int .i64 0,.int .i64 0,.int .i64 0,.slice none 0 0]) ?_ 1 _ rfl;(with_reducible repeat (first|refine blk_drewN ?_ _|refine blk_drew ?_|refine blk_alloc ?_ _));refine blk_put (cs:=#[.bool false,.bool false,.int .i64 0,.int .i64 0,.int .i64 0,.slice none 0 0]) ?_ 0 _ rfl;(with_reducible repeat (first|refine blk_drewN ?_ _|refine blk_drew ?_|refine blk_alloc ?_ _));exact BK330.out) hb);have n4_:=Aside0.mk (below_step (by repeat (first|(with_reducible first|exact HB.out|apply below_alloc|apply pw_below_drewN|apply below_drew1|refine below_set ?_ GE330.out)|exact HB.out)) hb);clear HO320;clear HO328;clear BK330;clear HB;have HO320:=n0_;have HO328:=n1_;have HO338:=n2_;have BK330:=n3_;have HB:=n4_;clear n0_ n1_ n2_ n3_ n4_;(try clear hb);(try clear hb2);(try clear hk);(try clear hi);(try clear ho0))|((with_reducible refine gate_dst (N:=7) rfl ?_);(try (refine gate_guard (by rfl) ?_;dsimp only));refine box_event ?hg (N:=7) ?hd (cs:=#[.bool false,.bool false,.int .i64 0,.int .i64 0,.int .i64 0,.slice none 0 0]) (t:=39) ?hr ?_;(case hd=>rfl);(case hg=>rfl);(case hr=>first|(go_simp;done)|(go_simp;rfl));intro gb340 hg w14 hbox hb;have n0_:=Aside0.mk (Kd.N_below (Kd.N_elderB (by (with_reducible repeat (first|apply Kd.N_alloc|apply Kd.N_drewN|apply Kd.N_drew));exact HO320.out) gb340 (Nat.le_of_eq hg.symm)) hb);have n1_:=Aside0.mk (Kd.N_below (Kd.N_elderB (by (with_reducible repeat (first|apply Kd.N_alloc|apply Kd.N_drewN|apply Kd.N_drew));exact HO328.out) gb340 (Nat.le_of_eq hg.symm)) hb);have n2_:=Aside0.mk (Kd.N_below (Kd.N_elderB (by (with_reducible repeat (first|apply Kd.N_alloc|apply Kd.N_drewN|apply Kd.N_drew));exact HO338.out) gb340 (Nat.le_of_eq hg.symm)) hb);have n3_:=Aside0.mk (blk_below (g:=gb330) (o:=.cells #[.bool t321,.bool t322,.int .i64 t323,.int .i64 t324,.int .i64 t325,.slice Ao12 t326.length co12] 39 (0,0)) (by (with_reducible repeat (first|refine blk_drewN ?_ _|refine blk_drew ?_|refine blk_alloc ?_ _));exact BK330.out) hb);have n4_:=Aside0.mk (below_step (by repeat (first|(with_reducible first|exact HB.out|apply below_alloc|apply pw_below_drewN|apply below_drew1|refine below_set ?_ GE330.out)|exact HB.out)) hb);have n5_:=Aside0.mk (hbox);have n6_:=Aside0.mk ((by rw [hg];exact (below_size (by repeat (first|(with_reducible first|exact HB.out|apply below_alloc|apply pw_below_drewN|apply below_drew1|refine below_set ?_ GE330.out)|exact HB.out))) : w.heap.size ≤ gb340));have n7_:=Aside0.mk ((by rw [hg];exact (below_size (by repeat (first|(with_reducible first|exact HB.out|apply below_alloc|apply pw_below_drewN|apply below_drew1|refine below_set ?_ GE330.out)|exact HB.out))) : w.heap.size ≤ gb340));have n8_:=Aside0.mk ((by rw [hg];exact Nat.ne_of_lt (blk_lt (g:=gb330) (o:=.cells #[.bool t321,.bool t322,.int .i64 t323,.int .i64 t324,.int .i64 t325,.slice Ao12 t326.length co12] 39 (0,0)) (by (with_reducible repeat (first|refine blk_drewN ?_ _|refine blk_drew ?_|refine blk_alloc ?_ _));exact BK330.out)) : gb330 ≠ gb340));have n9_:=Aside0.mk ((by rw [hg];exact Nat.ne_of_gt (blk_lt (g:=gb330) (o:=.cells #[.bool t321,.bool t322,.int .i64 t323,.int .i64 t324,.int .i64 t325,.slice Ao12 t326.length co12] 39 (0,0)) (by (with_reducible repeat (first|refine blk_drewN ?_ _|refine blk_drew ?_|refine blk_alloc ?_ _));exact BK330.out)) : gb340 ≠ gb330));clear HO320;clear HO328;clear HO338;clear BK330;clear HB;have HO320:=n0_;have HO328:=n1_;have HO338:=n2_;have BK330:=n3_;have HB:=n4_;have BK340:=n5_;have GW340:=n6_;have GE340:=n7_;have NB330_340:=n8_;have NB340_330:=n9_;clear n0_ n1_ n2_ n3_ n4_ n5_ n6_ n7_ n8_ n9_;clear hb hbox hg;have hnb15:=NB340_330.out;have hnc15:=NB330_340.out;have hcz16_0 : w14.cell? ⟨gb340,0,none⟩ = some (.bool false):=(blk_cell BK340.out 0).trans rfl;have hcz16_1 : w14.cell? ⟨gb340,1,none⟩ = some (.bool false):=(blk_cell BK340.out 1).trans rfl;have hcz16_2 : w14.cell? ⟨gb340,2,none⟩ = some (.int .i64 0):=(blk_cell BK340.out 2).trans rfl;have hcz16_3 : w14.cell? ⟨gb340,3,none⟩ = some (.int .i64 0):=(blk_cell BK340.out 3).trans rfl;have hcz16_4 : w14.cell? ⟨gb340,4,none⟩ = some (.int .i64 0):=(blk_cell BK340.out 4).trans rfl;have hcz16_5 : w14.cell? ⟨gb340,5,none⟩ = some (.slice none 0 0):=(blk_cell BK340.out 5).trans rfl;have hfz16_0:=blk_frozen BK340.out 0;have hfz16_1:=blk_frozen BK340.out 1;have hfz16_2:=blk_frozen BK340.out 2;have hfz16_3:=blk_frozen BK340.out 3;have hfz16_4:=blk_frozen BK340.out 4;have hfz16_5:=blk_frozen BK340.out 5;obtain ⟨Ao17,co17,eo17⟩:=Kd.N_slice HO338.out;subst eo17))
  (try simp only [Act.put,List.setIfInBounds_toArray,List.set_cons_zero,List.set_cons_succ])
  go_cut [50] (fun v50 wc=>∃ (kq : Nat) (x50_5 : Bool),v50 = .bool x50_5∧Aside0 (laws_FnTurnOrder.j0 kq t317 t318 t329 t339 x50_5 t321 t322 t323 t324 t325 t326 t331 t332 t333 t334 t335 t336=some r)∧Aside0 (kq ≤ k)∧Aside0 (Kd.N k26 26 wc w.heap.size (fun k_=>some k_ ≠ ((.slice Ao12 t326.length co12) : Value).ownBlock∧some k_ ≠ ((.slice Ao17 t336.length co17) : Value).ownBlock∧k_ ≠ gb330∧k_ ≠ gb340) (.slice Ao8 t317.length co8) t317)∧Aside0 (Kd.N k57 57 wc w.heap.size (fun k_=>some k_ ≠ ((.slice Ao8 t317.length co8) : Value).ownBlock∧some k_ ≠ ((.slice Ao17 t336.length co17) : Value).ownBlock∧k_ ≠ gb330∧k_ ≠ gb340) (.slice Ao12 t326.length co12) t326)∧Aside0 (Kd.N k57 57 wc w.heap.size (fun k_=>some k_ ≠ ((.slice Ao8 t317.length co8) : Value).ownBlock∧some k_ ≠ ((.slice Ao12 t326.length co12) : Value).ownBlock∧k_ ≠ gb330∧k_ ≠ gb340) (.slice Ao17 t336.length co17) t336)∧Aside0 (wc.heap[gb330]? = some (.cells #[.bool t321,.bool t322,.int .i64 t323,.int .i64 t324,.int .i64 t325,(.slice Ao12 t326.length co12)] 39 (0,0)))∧Aside0 (wc.heap[gb340]? = some (.cells #[.bool t331,.bool t332,.int .i64 t333,.int .i64 t334,.int .i64 t335,(.slice Ao17 t336.length co17)] 39 (0,0)))∧Aside0 (Below w.heap.size w wc))
  case first =>
   have H:=HC6.out
   clear HC6
   by_cases c18 : (t329 != t339)=true
   ·rw [if_pos c18] at H
    have c18b0 : (t329 != t339)=true:=c18
    (try (have c18b1 : decide (t329=t339)=false:=by simpa using c18))
    (try (have c18b2 : (t329 == t339)=false:=by simpa using c18))
    (try (have c18b3 : ¬ (t329=t339):=by simpa using c18))
    clear c18
    (first|rw [c18b0]|(simp only [i64_w,i32_w];rw [c18b0])|skip)
    have H':=Aside0.mk H
    clear H
    go_wp2
    go_meet
    case rel=>exact ⟨_,(true),(by first|rfl|(simp;done)|(simp [*];done)),H',⟨by first|omega|exact Nat.le_refl _⟩,⟨by (with_reducible repeat (first|apply Kd.N_alloc|apply Kd.N_drewN|apply Kd.N_drew));exact Kd.N_mono (Kd.N_far (p:=⟨gb340,5,none⟩) (Kd.N_far (p:=⟨gb340,4,none⟩) (Kd.N_far (p:=⟨gb340,3,none⟩) (Kd.N_far (p:=⟨gb340,2,none⟩) (Kd.N_far (p:=⟨gb340,1,none⟩) (Kd.N_far (p:=⟨gb340,0,none⟩) (Kd.N_mono HO320.out (fun k_ hk=>(⟨hk,hk.2⟩ : _∧k_ ≠ gb340))) (fun _ hk=>hk.2) (.bool t331)) (fun _ hk=>hk.2) (.bool t332)) (fun _ hk=>hk.2) (.int .i64 t333)) (fun _ hk=>hk.2) (.int .i64 t334)) (fun _ hk=>hk.2) (.int .i64 t335)) (fun _ hk=>hk.2) (.slice Ao17 t336.length co17)) (fun _ hk=>⟨hk.1.1.1.1.2,⟨hk.1.1.2,⟨hk.1.1.1.2,hk.1.2⟩⟩⟩)⟩,⟨by (with_reducible repeat (first|apply Kd.N_alloc|apply Kd.N_drewN|apply Kd.N_drew));exact Kd.N_mono (Kd.N_far (p:=⟨gb340,5,none⟩) (Kd.N_far (p:=⟨gb340,4,none⟩) (Kd.N_far (p:=⟨gb340,3,none⟩) (Kd.N_far (p:=⟨gb340,2,none⟩) (Kd.N_far (p:=⟨gb340,1,none⟩) (Kd.N_far (p:=⟨gb340,0,none⟩) (Kd.N_mono HO328.out (fun k_ hk=>(⟨hk,hk.2⟩ : _∧k_ ≠ gb340))) (fun _ hk=>hk.2) (.bool t331)) (fun _ hk=>hk.2) (.bool t332)) (fun _ hk=>hk.2) (.int .i64 t333)) (fun _ hk=>hk.2) (.int .i64 t334)) (fun _ hk=>hk.2) (.int .i64 t335)) (fun _ hk=>hk.2) (.slice Ao17 t336.length co17)) (fun _ hk=>⟨hk.1.1.1.1,⟨hk.1.1.2,⟨hk.1.1.1.2,hk.1.2⟩⟩⟩)⟩,⟨by (with_reducible repeat (first|apply Kd.N_alloc|apply Kd.N_drewN|apply Kd.N_drew));exact Kd.N_mono (Kd.N_far (p:=⟨gb340,5,none⟩) (Kd.N_far (p:=⟨gb340,4,none⟩) (Kd.N_far (p:=⟨gb340,3,none⟩) (Kd.N_far (p:=⟨gb340,2,none⟩) (Kd.N_far (p:=⟨gb340,1,none⟩) (Kd.N_far (p:=⟨gb340,0,none⟩) (Kd.N_mono HO338.out (fun k_ hk=>(⟨hk,hk.2⟩ : _∧k_ ≠ gb340))) (fun _ hk=>hk.2) (.bool t331)) (fun _ hk=>hk.2) (.bool t332)) (fun _ hk=>hk.2) (.int .i64 t333)) (fun _ hk=>hk.2) (.int .i64 t334)) (fun _ hk=>hk.2) (.int .i64 t335)) (fun _ hk=>hk.2) (.slice Ao17 t336.length co17)) (fun _ hk=>⟨hk.1.1.1,⟨hk.1.1.2.1,⟨hk.1.1.2.2,hk.1.2⟩⟩⟩)⟩,⟨by (with_reducible repeat (first|refine blk_drewN ?_ _|refine blk_drew ?_|refine blk_alloc ?_ _));refine blk_far ?_ NB330_340.out _;(with_reducible repeat (first|refine blk_drewN ?_ _|refine blk_drew ?_|refine blk_alloc ?_ _));refine blk_far ?_ NB330_340.out _;(with_reducible repeat (first|refine blk_drewN ?_ _|refine blk_drew ?_|refine blk_alloc ?_ _));refine blk_far ?_ NB330_340.out _;(with_reducible repeat (first|refine blk_drewN ?_ _|refine blk_drew ?_|refine blk_alloc ?_ _));refine blk_far ?_ NB330_340.out _;(with_reducible repeat (first|refine blk_drewN ?_ _|refine blk_drew ?_|refine blk_alloc ?_ _));refine blk_far ?_ NB330_340.out _;(with_reducible repeat (first|refine blk_drewN ?_ _|refine blk_drew ?_|refine blk_alloc ?_ _));refine blk_far ?_ NB330_340.out _;(with_reducible repeat (first|refine blk_drewN ?_ _|refine blk_drew ?_|refine blk_alloc ?_ _));exact BK330.out⟩,⟨by (with_reducible repeat (first|refine blk_drewN ?_ _|refine blk_drew ?_|refine blk_alloc ?_ _));refine blk_put (cs:=#[.bool t331,.bool t332,.int .i64 t333,.int .i64 t334,.int .i64 t335,.slice none 0 0]) ?_ 5 _ rfl;(with_reducible repeat (first|refine blk_drewN ?_ _|refine blk_drew ?_|refine blk_alloc ?_ _));refine blk_put (cs:=#[.bool t331,.bool t332,.int .i64 t333,.int .i64 t334,.int .i64 0,.slice none 0 0]) ?_ 4 _ rfl;(with_reducible repeat (first|refine blk_drewN ?_ _|refine blk_drew ?_|refine blk_alloc ?_ _));refine blk_put (cs:=#[.bool t331,.bool t332,.int .i64 t333,.int .i64 0,.int .i64 0,.slice none 0 0]) ?_ 3 _ rfl;(with_reducible repeat (first|refine blk_drewN ?_ _|refine blk_drew ?_|refine blk_alloc ?_ _));refine blk_put (cs:=#[.bool t331,.bool t332,.int .i64 0,.int .i64 0,.int .i64 0,.slice none 0 0]) ?_ 2 _ rfl;(with_reducible repeat (first|refine blk_drewN ?_ _|refine blk_drew ?_|refine blk_alloc ?_ _));refine blk_put (cs:=#[.bool t331,.bool false,.int .i64 0,.int .i64 0,.int .i64 0,.slice none 0 0]) ?_ 1 _ rfl;(with_reducible repeat (first|refine blk_drewN ?_ _|refine blk_drew ?_|refine blk_alloc ?_ _));refine blk_put (cs:=#[.bool false,.bool false,.int .i64 0,.int .i64 0,.int .i64 0,.slice none 0 0]) ?_ 0 _ rfl;(with_reducible repeat (first|refine blk_drewN ?_ _|refine blk_drew ?_|refine blk_alloc ?_ _));exact BK340.out⟩,⟨by repeat (first|(with_reducible first|exact HB.out|apply below_alloc|apply pw_below_drewN|apply below_drew1|refine below_set ?_ GE330.out|refine below_set ?_ GE340.out)|exact HB.out)⟩⟩
   ·rw [if_neg c18] at H
    have c18b0 : (t329 != t339)=false:=by simpa using c18
    (try (have c18b1 : decide (t329=t339)=true:=by simpa using c18))
    (try (have c18b2 : (t329 == t339)=true:=by simpa using c18))
    clear c18
    (first|rw [c18b0]|(simp only [i64_w,i32_w];rw [c18b0])|skip)
    replace H:=Option.bind_eq_some_iff.mp H
    obtain ⟨t341,A190,H⟩:=H
    replace H : (if t341=true then (if t329=true then (laws_FnTurnOrder.j0 k t317 t318 t329 t339 (decide ((t317.length : Int) < 2)) t321 t322 t323 t324 t325 t326 t331 t332 t333 t334 t335 t336) else (laws_FnTurnOrder.j0 k t317 t318 t329 t339 true t321 t322 t323 t324 t325 t326 t331 t332 t333 t334 t335 t336)) else (laws_FnTurnOrder.j0 k t317 t318 t329 t339 true t321 t322 t323 t324 t325 t326 t331 t332 t333 t334 t335 t336))=some r:=H
    have A19:=Aside0.mk A190
    clear A190
    by_cases c20 : t341=true
    ·subst c20
     have H1 : (if t329=true then (laws_FnTurnOrder.j0 k t317 t318 t329 t339 (decide ((t317.length : Int) < 2)) t321 t322 t323 t324 t325 t326 t331 t332 t333 t334 t335 t336) else (laws_FnTurnOrder.j0 k t317 t318 t329 t339 true t321 t322 t323 t324 t325 t326 t331 t332 t333 t334 t335 t336))=some r:=by rw [if_pos rfl] at H;exact H
     clear H
     have H:=H1
     clear H1
     by_cases c21 : t329=true
     ·subst c21
      have H1 : (laws_FnTurnOrder.j0 k t317 t318 true t339 (decide ((t317.length : Int) < 2)) t321 t322 t323 t324 t325 t326 t331 t332 t333 t334 t335 t336)=some r:=by rw [if_pos rfl] at H;exact H
      clear H
      have H:=H1
      clear H1
      have H':=Aside0.mk H
      clear H
      have hnb22:=NB330_340.out
      have hnc22:=NB340_330.out
      have hcz23_0 : w14.cell? ⟨gb330,0,none⟩ = some (.bool t321):=(blk_cell BK330.out 0).trans rfl
      have hcz23_1 : w14.cell? ⟨gb330,1,none⟩ = some (.bool t322):=(blk_cell BK330.out 1).trans rfl
      have hcz23_2 : w14.cell? ⟨gb330,2,none⟩ = some (.int .i64 t323):=(blk_cell BK330.out 2).trans rfl
      have hcz23_3 : w14.cell? ⟨gb330,3,none⟩ = some (.int .i64 t324):=(blk_cell BK330.out 3).trans rfl
      have hcz23_4 : w14.cell? ⟨gb330,4,none⟩ = some (.int .i64 t325):=(blk_cell BK330.out 4).trans rfl
      have hcz23_5 : w14.cell? ⟨gb330,5,none⟩ = some (.slice Ao12 t326.length co12):=(blk_cell BK330.out 5).trans rfl
      have hfz23_0:=blk_frozen BK330.out 0
      have hfz23_1:=blk_frozen BK330.out 1
      have hfz23_2:=blk_frozen BK330.out 2
      have hfz23_3:=blk_frozen BK330.out 3
      have hfz23_4:=blk_frozen BK330.out 4
      have hfz23_5:=blk_frozen BK330.out 5
      have hcz24_0 : w14.cell? ⟨gb340,0,none⟩ = some (.bool false):=(blk_cell BK340.out 0).trans rfl
      have hcz24_1 : w14.cell? ⟨gb340,1,none⟩ = some (.bool false):=(blk_cell BK340.out 1).trans rfl
      have hcz24_2 : w14.cell? ⟨gb340,2,none⟩ = some (.int .i64 0):=(blk_cell BK340.out 2).trans rfl
      have hcz24_3 : w14.cell? ⟨gb340,3,none⟩ = some (.int .i64 0):=(blk_cell BK340.out 3).trans rfl
      have hcz24_4 : w14.cell? ⟨gb340,4,none⟩ = some (.int .i64 0):=(blk_cell BK340.out 4).trans rfl
      have hcz24_5 : w14.cell? ⟨gb340,5,none⟩ = some (.slice none 0 0):=(blk_cell BK340.out 5).trans rfl
      have hfz24_0:=blk_frozen BK340.out 0
      have hfz24_1:=blk_frozen BK340.out 1
      have hfz24_2:=blk_frozen BK340.out 2
      have hfz24_3:=blk_frozen BK340.out 3
      have hfz24_4:=blk_frozen BK340.out 4
      have hfz24_5:=blk_frozen BK340.out 5
      go_wp2_with (first|(go_at_call 37;(with_reducible refine (laws_sameBatch.calls k t321 t322 t323 t324 t325 _ _ t326 t331 t332 t333 t334 t335 _ _ t336 true _ ?side1 ?side2 ?side3 ?side4 A19.out).mono ?_);(case side1=>refine (Kd.N_reads' (e:=57) (base:=w.heap.size) (ok:=fun k_=>(((some k_ ≠ (.slice Ao8 t317.length co8 : Value).ownBlock∧k_ ≠ gb330)∧some k_ ≠ (.slice Ao17 t336.length co17 : Value).ownBlock)∧k_ ≠ gb340)) (n:=t326.length) (c:=co12) ?_).2.2;exact (by (with_reducible repeat (first|apply Kd.N_alloc|apply Kd.N_drewN|apply Kd.N_drew));exact (Kd.N_mono (Kd.N_far (p:=⟨gb340,5,none⟩) (Kd.N_far (p:=⟨gb340,4,none⟩) (Kd.N_far (p:=⟨gb340,3,none⟩) (Kd.N_far (p:=⟨gb340,2,none⟩) (Kd.N_far (p:=⟨gb340,1,none⟩) (Kd.N_far (p:=⟨gb340,0,none⟩) (Kd.N_mono HO328.out (fun k_ hk=>(⟨hk,hk.2⟩ : _∧k_ ≠ gb340))) (fun _ hk=>hk.2) (.bool t331)) (fun _ hk=>hk.2) (.bool t332)) (fun _ hk=>hk.2) (.int .i64 t333)) (fun _ hk=>hk.2) (.int .i64 t334)) (fun _ hk=>hk.2) (.int .i64 t335)) (fun _ hk=>hk.2) (.slice Ao17 t336.length co17)) (fun _ h_=>h_.1))));(case side2=>exact (Kd.N_reads' HO328.out).2.1);(case side3=>refine (Kd.N_reads' (e:=57) (base:=w.heap.size) (ok:=fun k_=>((some k_ ≠ (.slice Ao8 t317.length co8 : Value).ownBlock∧(some k_ ≠ (.slice Ao12 t326.length co12 : Value).ownBlock∧k_ ≠ gb330))∧k_ ≠ gb340)) (n:=t336.length) (c:=co17) ?_).2.2;exact (by (with_reducible repeat (first|apply Kd.N_alloc|apply Kd.N_drewN|apply Kd.N_drew));exact (Kd.N_mono (Kd.N_far (p:=⟨gb340,5,none⟩) (Kd.N_far (p:=⟨gb340,4,none⟩) (Kd.N_far (p:=⟨gb340,3,none⟩) (Kd.N_far (p:=⟨gb340,2,none⟩) (Kd.N_far (p:=⟨gb340,1,none⟩) (Kd.N_far (p:=⟨gb340,0,none⟩) (Kd.N_mono HO338.out (fun k_ hk=>(⟨hk,hk.2⟩ : _∧k_ ≠ gb340))) (fun _ hk=>hk.2) (.bool t331)) (fun _ hk=>hk.2) (.bool t332)) (fun _ hk=>hk.2) (.int .i64 t333)) (fun _ hk=>hk.2) (.int .i64 t334)) (fun _ hk=>hk.2) (.int .i64 t335)) (fun _ hk=>hk.2) (.slice Ao17 t336.length co17)) (fun _ h_=>h_.1))));(case side4=>exact (Kd.N_reads' HO338.out).2.1);rintro e w25 ⟨rfl,hb⟩;have n0_:=Aside0.mk (Kd.N_below (by (with_reducible repeat (first|apply Kd.N_alloc|apply Kd.N_drewN|apply Kd.N_drew));exact (Kd.N_mono (Kd.N_far (p:=⟨gb340,5,none⟩) (Kd.N_far (p:=⟨gb340,4,none⟩) (Kd.N_far (p:=⟨gb340,3,none⟩) (Kd.N_far (p:=⟨gb340,2,none⟩) (Kd.N_far (p:=⟨gb340,1,none⟩) (Kd.N_far (p:=⟨gb340,0,none⟩) (Kd.N_mono HO320.out (fun k_ hk=>(⟨hk,hk.2⟩ : _∧k_ ≠ gb340))) (fun _ hk=>hk.2) (.bool t331)) (fun _ hk=>hk.2) (.bool t332)) (fun _ hk=>hk.2) (.int .i64 t333)) (fun _ hk=>hk.2) (.int .i64 t334)) (fun _ hk=>hk.2) (.int .i64 t335)) (fun _ hk=>hk.2) (.slice Ao17 t336.length co17)) (fun _ h_=>h_.1))) hb);have n1_:=Aside0.mk (Kd.N_below (by (with_reducible repeat (first|apply Kd.N_alloc|apply Kd.N_drewN|apply Kd.N_drew));exact (Kd.N_mono (Kd.N_far (p:=⟨gb340,5,none⟩) (Kd.N_far (p:=⟨gb340,4,none⟩) (Kd.N_far (p:=⟨gb340,3,none⟩) (Kd.N_far (p:=⟨gb340,2,none⟩) (Kd.N_far (p:=⟨gb340,1,none⟩) (Kd.N_far (p:=⟨gb340,0,none⟩) (Kd.N_mono HO328.out (fun k_ hk=>(⟨hk,hk.2⟩ : _∧k_ ≠ gb340))) (fun _ hk=>hk.2) (.bool t331)) (fun _ hk=>hk.2) (.bool t332)) (fun _ hk=>hk.2) (.int .i64 t333)) (fun _ hk=>hk.2) (.int .i64 t334)) (fun _ hk=>hk.2) (.int .i64 t335)) (fun _ hk=>hk.2) (.slice Ao17 t336.length co17)) (fun _ h_=>h_.1))) hb);have n2_:=Aside0.mk (Kd.N_below (by (with_reducible repeat (first|apply Kd.N_alloc|apply Kd.N_drewN|apply Kd.N_drew));exact (Kd.N_mono (Kd.N_far (p:=⟨gb340,5,none⟩) (Kd.N_far (p:=⟨gb340,4,none⟩) (Kd.N_far (p:=⟨gb340,3,none⟩) (Kd.N_far (p:=⟨gb340,2,none⟩) (Kd.N_far (p:=⟨gb340,1,none⟩) (Kd.N_far (p:=⟨gb340,0,none⟩) (Kd.N_mono HO338.out (fun k_ hk=>(⟨hk,hk.2⟩ : _∧k_ ≠ gb340))) (fun _ hk=>hk.2) (.bool t331)) (fun _ hk=>hk.2) (.bool t332)) (fun _ hk=>hk.2) (.int .i64 t333)) (fun _ hk=>hk.2) (.int .i64 t334)) (fun _ hk=>hk.2) (.int .i64 t335)) (fun _ hk=>hk.2) (.slice Ao17 t336.length co17)) (fun _ h_=>h_.1))) hb);have n3_:=Aside0.mk (blk_below (g:=gb330) (o:=.cells #[.bool t321,.bool t322,.int .i64 t323,.int .i64 t324,.int .i64 t325,.slice Ao12 t326.length co12] 39 (0,0)) (by (with_reducible repeat (first|refine blk_drewN ?_ _|refine blk_drew ?_|refine blk_alloc ?_ _));refine blk_far ?_ NB330_340.out _;(with_reducible repeat (first|refine blk_drewN ?_ _|refine blk_drew ?_|refine blk_alloc ?_ _));refine blk_far ?_ NB330_340.out _;(with_reducible repeat (first|refine blk_drewN ?_ _|refine blk_drew ?_|refine blk_alloc ?_ _));refine blk_far ?_ NB330_340.out _;(with_reducible repeat (first|refine blk_drewN ?_ _|refine blk_drew ?_|refine blk_alloc ?_ _));refine blk_far ?_ NB330_340.out _;(with_reducible repeat (first|refine blk_drewN ?_ _|refine blk_drew ?_|refine blk_alloc ?_ _));refine blk_far ?_ NB330_340.out _;(with_reducible repeat (first|refine blk_drewN ?_ _|refine blk_drew ?_|refine blk_alloc ?_ _));refine blk_far ?_ NB330_340.out _;(with_reducible repeat (first|refine blk_drewN ?_ _|refine blk_drew ?_|refine blk_alloc ?_ _));exact BK330.out) hb);have n4_:=Aside0.mk (blk_below (g:=gb340) (o:=.cells #[.bool t331,.bool t332,.int .i64 t333,.int .i64 t334,.int .i64 t335,.slice Ao17 t336.length co17] 39 (0,0)) (by (with_reducible repeat (first|refine blk_drewN ?_ _|refine blk_drew ?_|refine blk_alloc ?_ _));refine blk_put (cs:=#[.bool t331,.bool t332,.int .i64 t333,.int .i64 t334,.int .i64 t335,.slice none 0 0]) ?_ 5 _ rfl;(with_reducible repeat (first|refine blk_drewN ?_ _|refine blk_drew ?_|refine blk_alloc ?_ _));refine blk_put (cs:=#[.bool t331,.bool t332,.int .i64 t333,.int .i64 t334,.int .i64 0,.slice none 0 0]) ?_ 4 _ rfl;(with_reducible repeat (first|refine blk_drewN ?_ _|refine blk_drew ?_|refine blk_alloc ?_ _));refine blk_put (cs:=#[.bool t331,.bool t332,.int .i64 t333,.int .i64 0,.int .i64 0,.slice none 0 0]) ?_ 3 _ rfl;(with_reducible repeat (first|refine blk_drewN ?_ _|refine blk_drew ?_|refine blk_alloc ?_ _));refine blk_put (cs:=#[.bool t331,.bool t332,.int .i64 0,.int .i64 0,.int .i64 0,.slice none 0 0]) ?_ 2 _ rfl;(with_reducible repeat (first|refine blk_drewN ?_ _|refine blk_drew ?_|refine blk_alloc ?_ _));refine blk_put (cs:=#[.bool t331,.bool false,.int .i64 0,.int .i64 0,.int .i64 0,.slice none 0 0]) ?_ 1 _ rfl;(with_reducible repeat (first|refine blk_drewN ?_ _|refine blk_drew ?_|refine blk_alloc ?_ _));refine blk_put (cs:=#[.bool false,.bool false,.int .i64 0,.int .i64 0,.int .i64 0,.slice none 0 0]) ?_ 0 _ rfl;(with_reducible repeat (first|refine blk_drewN ?_ _|refine blk_drew ?_|refine blk_alloc ?_ _));exact BK340.out) hb);have n5_:=Aside0.mk (below_step (by repeat (first|(with_reducible first|exact HB.out|apply below_alloc|apply pw_below_drewN|apply below_drew1|refine below_set ?_ GE330.out|refine below_set ?_ GE340.out)|exact HB.out)) hb);clear HO320;clear HO328;clear HO338;clear BK330;clear BK340;clear HB;have HO320:=n0_;have HO328:=n1_;have HO338:=n2_;have BK330:=n3_;have BK340:=n4_;have HB:=n5_;clear n0_ n1_ n2_ n3_ n4_ n5_;(try clear hb);(try clear hb2);(try clear hk);(try clear hi)))
      go_meet
      case rel=>exact ⟨_,(decide ((t317.length : Int) < 2)),(by first|rfl|(simp;done)|(simp [*];done)),H',⟨by first|omega|exact Nat.le_refl _⟩,⟨by (with_reducible repeat (first|apply Kd.N_alloc|apply Kd.N_drewN|apply Kd.N_drew));exact Kd.N_mono HO320.out (fun _ hk=>⟨hk.1.1.1.2,⟨hk.1.2,⟨hk.1.1.2,hk.2⟩⟩⟩)⟩,⟨by (with_reducible repeat (first|apply Kd.N_alloc|apply Kd.N_drewN|apply Kd.N_drew));exact Kd.N_mono HO328.out (fun _ hk=>⟨hk.1.1.1,⟨hk.1.2,⟨hk.1.1.2,hk.2⟩⟩⟩)⟩,⟨by (with_reducible repeat (first|apply Kd.N_alloc|apply Kd.N_drewN|apply Kd.N_drew));exact Kd.N_mono HO338.out (fun _ hk=>⟨hk.1.1,⟨hk.1.2.1,⟨hk.1.2.2,hk.2⟩⟩⟩)⟩,⟨by (with_reducible repeat (first|refine blk_drewN ?_ _|refine blk_drew ?_|refine blk_alloc ?_ _));exact BK330.out⟩,⟨by (with_reducible repeat (first|refine blk_drewN ?_ _|refine blk_drew ?_|refine blk_alloc ?_ _));exact BK340.out⟩,⟨by repeat (first|(with_reducible first|exact HB.out|apply below_alloc|apply pw_below_drewN|apply below_drew1|refine below_set ?_ GE330.out|refine below_set ?_ GE340.out)|exact HB.out)⟩⟩
     ·replace c21:=Bool.eq_false_iff.mpr c21
      subst c21
      have H1 : (laws_FnTurnOrder.j0 k t317 t318 false t339 true t321 t322 t323 t324 t325 t326 t331 t332 t333 t334 t335 t336)=some r:=by rw [if_neg (show ¬ (false=true) by decide)] at H;exact H
      clear H
      have H:=H1
      clear H1
      have H':=Aside0.mk H
      clear H
      have hnb26:=NB330_340.out
      have hnc26:=NB340_330.out
      have hcz27_0 : w14.cell? ⟨gb330,0,none⟩ = some (.bool t321):=(blk_cell BK330.out 0).trans rfl
      have hcz27_1 : w14.cell? ⟨gb330,1,none⟩ = some (.bool t322):=(blk_cell BK330.out 1).trans rfl
      have hcz27_2 : w14.cell? ⟨gb330,2,none⟩ = some (.int .i64 t323):=(blk_cell BK330.out 2).trans rfl
      have hcz27_3 : w14.cell? ⟨gb330,3,none⟩ = some (.int .i64 t324):=(blk_cell BK330.out 3).trans rfl
      have hcz27_4 : w14.cell? ⟨gb330,4,none⟩ = some (.int .i64 t325):=(blk_cell BK330.out 4).trans rfl
      have hcz27_5 : w14.cell? ⟨gb330,5,none⟩ = some (.slice Ao12 t326.length co12):=(blk_cell BK330.out 5).trans rfl
      have hfz27_0:=blk_frozen BK330.out 0
      have hfz27_1:=blk_frozen BK330.out 1
      have hfz27_2:=blk_frozen BK330.out 2
      have hfz27_3:=blk_frozen BK330.out 3
      have hfz27_4:=blk_frozen BK330.out 4
      have hfz27_5:=blk_frozen BK330.out 5
      have hcz28_0 : w14.cell? ⟨gb340,0,none⟩ = some (.bool false):=(blk_cell BK340.out 0).trans rfl
      have hcz28_1 : w14.cell? ⟨gb340,1,none⟩ = some (.bool false):=(blk_cell BK340.out 1).trans rfl
      have hcz28_2 : w14.cell? ⟨gb340,2,none⟩ = some (.int .i64 0):=(blk_cell BK340.out 2).trans rfl
      have hcz28_3 : w14.cell? ⟨gb340,3,none⟩ = some (.int .i64 0):=(blk_cell BK340.out 3).trans rfl
      have hcz28_4 : w14.cell? ⟨gb340,4,none⟩ = some (.int .i64 0):=(blk_cell BK340.out 4).trans rfl
      have hcz28_5 : w14.cell? ⟨gb340,5,none⟩ = some (.slice none 0 0):=(blk_cell BK340.out 5).trans rfl
      have hfz28_0:=blk_frozen BK340.out 0
      have hfz28_1:=blk_frozen BK340.out 1
      have hfz28_2:=blk_frozen BK340.out 2
      have hfz28_3:=blk_frozen BK340.out 3
      have hfz28_4:=blk_frozen BK340.out 4
      have hfz28_5:=blk_frozen BK340.out 5
      go_wp2_with (first|(go_at_call 37;(with_reducible refine (laws_sameBatch.calls k t321 t322 t323 t324 t325 _ _ t326 t331 t332 t333 t334 t335 _ _ t336 true _ ?side1 ?side2 ?side3 ?side4 A19.out).mono ?_);(case side1=>refine (Kd.N_reads' (e:=57) (base:=w.heap.size) (ok:=fun k_=>(((some k_ ≠ (.slice Ao8 t317.length co8 : Value).ownBlock∧k_ ≠ gb330)∧some k_ ≠ (.slice Ao17 t336.length co17 : Value).ownBlock)∧k_ ≠ gb340)) (n:=t326.length) (c:=co12) ?_).2.2;exact (by (with_reducible repeat (first|apply Kd.N_alloc|apply Kd.N_drewN|apply Kd.N_drew));exact (Kd.N_mono (Kd.N_far (p:=⟨gb340,5,none⟩) (Kd.N_far (p:=⟨gb340,4,none⟩) (Kd.N_far (p:=⟨gb340,3,none⟩) (Kd.N_far (p:=⟨gb340,2,none⟩) (Kd.N_far (p:=⟨gb340,1,none⟩) (Kd.N_far (p:=⟨gb340,0,none⟩) (Kd.N_mono HO328.out (fun k_ hk=>(⟨hk,hk.2⟩ : _∧k_ ≠ gb340))) (fun _ hk=>hk.2) (.bool t331)) (fun _ hk=>hk.2) (.bool t332)) (fun _ hk=>hk.2) (.int .i64 t333)) (fun _ hk=>hk.2) (.int .i64 t334)) (fun _ hk=>hk.2) (.int .i64 t335)) (fun _ hk=>hk.2) (.slice Ao17 t336.length co17)) (fun _ h_=>h_.1))));(case side2=>exact (Kd.N_reads' HO328.out).2.1);(case side3=>refine (Kd.N_reads' (e:=57) (base:=w.heap.size) (ok:=fun k_=>((some k_ ≠ (.slice Ao8 t317.length co8 : Value).ownBlock∧(some k_ ≠ (.slice Ao12 t326.length co12 : Value).ownBlock∧k_ ≠ gb330))∧k_ ≠ gb340)) (n:=t336.length) (c:=co17) ?_).2.2;exact (by (with_reducible repeat (first|apply Kd.N_alloc|apply Kd.N_drewN|apply Kd.N_drew));exact (Kd.N_mono (Kd.N_far (p:=⟨gb340,5,none⟩) (Kd.N_far (p:=⟨gb340,4,none⟩) (Kd.N_far (p:=⟨gb340,3,none⟩) (Kd.N_far (p:=⟨gb340,2,none⟩) (Kd.N_far (p:=⟨gb340,1,none⟩) (Kd.N_far (p:=⟨gb340,0,none⟩) (Kd.N_mono HO338.out (fun k_ hk=>(⟨hk,hk.2⟩ : _∧k_ ≠ gb340))) (fun _ hk=>hk.2) (.bool t331)) (fun _ hk=>hk.2) (.bool t332)) (fun _ hk=>hk.2) (.int .i64 t333)) (fun _ hk=>hk.2) (.int .i64 t334)) (fun _ hk=>hk.2) (.int .i64 t335)) (fun _ hk=>hk.2) (.slice Ao17 t336.length co17)) (fun _ h_=>h_.1))));(case side4=>exact (Kd.N_reads' HO338.out).2.1);rintro e w29 ⟨rfl,hb⟩;have n0_:=Aside0.mk (Kd.N_below (by (with_reducible repeat (first|apply Kd.N_alloc|apply Kd.N_drewN|apply Kd.N_drew));exact (Kd.N_mono (Kd.N_far (p:=⟨gb340,5,none⟩) (Kd.N_far (p:=⟨gb340,4,none⟩) (Kd.N_far (p:=⟨gb340,3,none⟩) (Kd.N_far (p:=⟨gb340,2,none⟩) (Kd.N_far (p:=⟨gb340,1,none⟩) (Kd.N_far (p:=⟨gb340,0,none⟩) (Kd.N_mono HO320.out (fun k_ hk=>(⟨hk,hk.2⟩ : _∧k_ ≠ gb340))) (fun _ hk=>hk.2) (.bool t331)) (fun _ hk=>hk.2) (.bool t332)) (fun _ hk=>hk.2) (.int .i64 t333)) (fun _ hk=>hk.2) (.int .i64 t334)) (fun _ hk=>hk.2) (.int .i64 t335)) (fun _ hk=>hk.2) (.slice Ao17 t336.length co17)) (fun _ h_=>h_.1))) hb);have n1_:=Aside0.mk (Kd.N_below (by (with_reducible repeat (first|apply Kd.N_alloc|apply Kd.N_drewN|apply Kd.N_drew));exact (Kd.N_mono (Kd.N_far (p:=⟨gb340,5,none⟩) (Kd.N_far (p:=⟨gb340,4,none⟩) (Kd.N_far (p:=⟨gb340,3,none⟩) (Kd.N_far (p:=⟨gb340,2,none⟩) (Kd.N_far (p:=⟨gb340,1,none⟩) (Kd.N_far (p:=⟨gb340,0,none⟩) (Kd.N_mono HO328.out (fun k_ hk=>(⟨hk,hk.2⟩ : _∧k_ ≠ gb340))) (fun _ hk=>hk.2) (.bool t331)) (fun _ hk=>hk.2) (.bool t332)) (fun _ hk=>hk.2) (.int .i64 t333)) (fun _ hk=>hk.2) (.int .i64 t334)) (fun _ hk=>hk.2) (.int .i64 t335)) (fun _ hk=>hk.2) (.slice Ao17 t336.length co17)) (fun _ h_=>h_.1))) hb);have n2_:=Aside0.mk (Kd.N_below (by (with_reducible repeat (first|apply Kd.N_alloc|apply Kd.N_drewN|apply Kd.N_drew));exact (Kd.N_mono (Kd.N_far (p:=⟨gb340,5,none⟩) (Kd.N_far (p:=⟨gb340,4,none⟩) (Kd.N_far (p:=⟨gb340,3,none⟩) (Kd.N_far (p:=⟨gb340,2,none⟩) (Kd.N_far (p:=⟨gb340,1,none⟩) (Kd.N_far (p:=⟨gb340,0,none⟩) (Kd.N_mono HO338.out (fun k_ hk=>(⟨hk,hk.2⟩ : _∧k_ ≠ gb340))) (fun _ hk=>hk.2) (.bool t331)) (fun _ hk=>hk.2) (.bool t332)) (fun _ hk=>hk.2) (.int .i64 t333)) (fun _ hk=>hk.2) (.int .i64 t334)) (fun _ hk=>hk.2) (.int .i64 t335)) (fun _ hk=>hk.2) (.slice Ao17 t336.length co17)) (fun _ h_=>h_.1))) hb);have n3_:=Aside0.mk (blk_below (g:=gb330) (o:=.cells #[.bool t321,.bool t322,.int .i64 t323,.int .i64 t324,.int .i64 t325,.slice Ao12 t326.length co12] 39 (0,0)) (by (with_reducible repeat (first|refine blk_drewN ?_ _|refine blk_drew ?_|refine blk_alloc ?_ _));refine blk_far ?_ NB330_340.out _;(with_reducible repeat (first|refine blk_drewN ?_ _|refine blk_drew ?_|refine blk_alloc ?_ _));refine blk_far ?_ NB330_340.out _;(with_reducible repeat (first|refine blk_drewN ?_ _|refine blk_drew ?_|refine blk_alloc ?_ _));refine blk_far ?_ NB330_340.out _;(with_reducible repeat (first|refine blk_drewN ?_ _|refine blk_drew ?_|refine blk_alloc ?_ _));refine blk_far ?_ NB330_340.out _;(with_reducible repeat (first|refine blk_drewN ?_ _|refine blk_drew ?_|refine blk_alloc ?_ _));refine blk_far ?_ NB330_340.out _;(with_reducible repeat (first|refine blk_drewN ?_ _|refine blk_drew ?_|refine blk_alloc ?_ _));refine blk_far ?_ NB330_340.out _;(with_reducible repeat (first|refine blk_drewN ?_ _|refine blk_drew ?_|refine blk_alloc ?_ _));exact BK330.out) hb);have n4_:=Aside0.mk (blk_below (g:=gb340) (o:=.cells #[.bool t331,.bool t332,.int .i64 t333,.int .i64 t334,.int .i64 t335,.slice Ao17 t336.length co17] 39 (0,0)) (by (with_reducible repeat (first|refine blk_drewN ?_ _|refine blk_drew ?_|refine blk_alloc ?_ _));refine blk_put (cs:=#[.bool t331,.bool t332,.int .i64 t333,.int .i64 t334,.int .i64 t335,.slice none 0 0]) ?_ 5 _ rfl;(with_reducible repeat (first|refine blk_drewN ?_ _|refine blk_drew ?_|refine blk_alloc ?_ _));refine blk_put (cs:=#[.bool t331,.bool t332,.int .i64 t333,.int .i64 t334,.int .i64 0,.slice none 0 0]) ?_ 4 _ rfl;(with_reducible repeat (first|refine blk_drewN ?_ _|refine blk_drew ?_|refine blk_alloc ?_ _));refine blk_put (cs:=#[.bool t331,.bool t332,.int .i64 t333,.int .i64 0,.int .i64 0,.slice none 0 0]) ?_ 3 _ rfl;(with_reducible repeat (first|refine blk_drewN ?_ _|refine blk_drew ?_|refine blk_alloc ?_ _));refine blk_put (cs:=#[.bool t331,.bool t332,.int .i64 0,.int .i64 0,.int .i64 0,.slice none 0 0]) ?_ 2 _ rfl;(with_reducible repeat (first|refine blk_drewN ?_ _|refine blk_drew ?_|refine blk_alloc ?_ _));refine blk_put (cs:=#[.bool t331,.bool false,.int .i64 0,.int .i64 0,.int .i64 0,.slice none 0 0]) ?_ 1 _ rfl;(with_reducible repeat (first|refine blk_drewN ?_ _|refine blk_drew ?_|refine blk_alloc ?_ _));refine blk_put (cs:=#[.bool false,.bool false,.int .i64 0,.int .i64 0,.int .i64 0,.slice none 0 0]) ?_ 0 _ rfl;(with_reducible repeat (first|refine blk_drewN ?_ _|refine blk_drew ?_|refine blk_alloc ?_ _));exact BK340.out) hb);have n5_:=Aside0.mk (below_step (by repeat (first|(with_reducible first|exact HB.out|apply below_alloc|apply pw_below_drewN|apply below_drew1|refine below_set ?_ GE330.out|refine below_set ?_ GE340.out)|exact HB.out)) hb);clear HO320;clear HO328;clear HO338;clear BK330;clear BK340;clear HB;have HO320:=n0_;have HO328:=n1_;have HO338:=n2_;have BK330:=n3_;have BK340:=n4_;have HB:=n5_;clear n0_ n1_ n2_ n3_ n4_ n5_;(try clear hb);(try clear hb2);(try clear hk);(try clear hi)))
      go_meet
      case rel=>exact ⟨_,(true),(by first|rfl|(simp;done)|(simp [*];done)),H',⟨by first|omega|exact Nat.le_refl _⟩,⟨by (with_reducible repeat (first|apply Kd.N_alloc|apply Kd.N_drewN|apply Kd.N_drew));exact Kd.N_mono HO320.out (fun _ hk=>⟨hk.1.1.1.2,⟨hk.1.2,⟨hk.1.1.2,hk.2⟩⟩⟩)⟩,⟨by (with_reducible repeat (first|apply Kd.N_alloc|apply Kd.N_drewN|apply Kd.N_drew));exact Kd.N_mono HO328.out (fun _ hk=>⟨hk.1.1.1,⟨hk.1.2,⟨hk.1.1.2,hk.2⟩⟩⟩)⟩,⟨by (with_reducible repeat (first|apply Kd.N_alloc|apply Kd.N_drewN|apply Kd.N_drew));exact Kd.N_mono HO338.out (fun _ hk=>⟨hk.1.1,⟨hk.1.2.1,⟨hk.1.2.2,hk.2⟩⟩⟩)⟩,⟨by (with_reducible repeat (first|refine blk_drewN ?_ _|refine blk_drew ?_|refine blk_alloc ?_ _));exact BK330.out⟩,⟨by (with_reducible repeat (first|refine blk_drewN ?_ _|refine blk_drew ?_|refine blk_alloc ?_ _));exact BK340.out⟩,⟨by repeat (first|(with_reducible first|exact HB.out|apply below_alloc|apply pw_below_drewN|apply below_drew1|refine below_set ?_ GE330.out|refine below_set ?_ GE340.out)|exact HB.out)⟩⟩
    ·replace c20:=Bool.eq_false_iff.mpr c20
     subst c20
     have H1 : (laws_FnTurnOrder.j0 k t317 t318 t329 t339 true t321 t322 t323 t324 t325 t326 t331 t332 t333 t334 t335 t336)=some r:=by rw [if_neg (show ¬ (false=true) by decide)] at H;exact H
     clear H
     have H:=H1
     clear H1
     have H':=Aside0.mk H
     clear H
     have hnb30:=NB330_340.out
     have hnc30:=NB340_330.out
     have hcz31_0 : w14.cell? ⟨gb330,0,none⟩ = some (.bool t321):=(blk_cell BK330.out 0).trans rfl
     have hcz31_1 : w14.cell? ⟨gb330,1,none⟩ = some (.bool t322):=(blk_cell BK330.out 1).trans rfl
     have hcz31_2 : w14.cell? ⟨gb330,2,none⟩ = some (.int .i64 t323):=(blk_cell BK330.out 2).trans rfl
     have hcz31_3 : w14.cell? ⟨gb330,3,none⟩ = some (.int .i64 t324):=(blk_cell BK330.out 3).trans rfl
     have hcz31_4 : w14.cell? ⟨gb330,4,none⟩ = some (.int .i64 t325):=(blk_cell BK330.out 4).trans rfl
     have hcz31_5 : w14.cell? ⟨gb330,5,none⟩ = some (.slice Ao12 t326.length co12):=(blk_cell BK330.out 5).trans rfl
     have hfz31_0:=blk_frozen BK330.out 0
     have hfz31_1:=blk_frozen BK330.out 1
     have hfz31_2:=blk_frozen BK330.out 2
     have hfz31_3:=blk_frozen BK330.out 3
     have hfz31_4:=blk_frozen BK330.out 4
     have hfz31_5:=blk_frozen BK330.out 5
     have hcz32_0 : w14.cell? ⟨gb340,0,none⟩ = some (.bool false):=(blk_cell BK340.out 0).trans rfl
     have hcz32_1 : w14.cell? ⟨gb340,1,none⟩ = some (.bool false):=(blk_cell BK340.out 1).trans rfl
     have hcz32_2 : w14.cell? ⟨gb340,2,none⟩ = some (.int .i64 0):=(blk_cell BK340.out 2).trans rfl
     have hcz32_3 : w14.cell? ⟨gb340,3,none⟩ = some (.int .i64 0):=(blk_cell BK340.out 3).trans rfl
     have hcz32_4 : w14.cell? ⟨gb340,4,none⟩ = some (.int .i64 0):=(blk_cell BK340.out 4).trans rfl
     have hcz32_5 : w14.cell? ⟨gb340,5,none⟩ = some (.slice none 0 0):=(blk_cell BK340.out 5).trans rfl
     have hfz32_0:=blk_frozen BK340.out 0
     have hfz32_1:=blk_frozen BK340.out 1
     have hfz32_2:=blk_frozen BK340.out 2
     have hfz32_3:=blk_frozen BK340.out 3
     have hfz32_4:=blk_frozen BK340.out 4
     have hfz32_5:=blk_frozen BK340.out 5
     go_wp2_with (first|(go_at_call 37;(with_reducible refine (laws_sameBatch.calls k t321 t322 t323 t324 t325 _ _ t326 t331 t332 t333 t334 t335 _ _ t336 false _ ?side1 ?side2 ?side3 ?side4 A19.out).mono ?_);(case side1=>refine (Kd.N_reads' (e:=57) (base:=w.heap.size) (ok:=fun k_=>(((some k_ ≠ (.slice Ao8 t317.length co8 : Value).ownBlock∧k_ ≠ gb330)∧some k_ ≠ (.slice Ao17 t336.length co17 : Value).ownBlock)∧k_ ≠ gb340)) (n:=t326.length) (c:=co12) ?_).2.2;exact (by (with_reducible repeat (first|apply Kd.N_alloc|apply Kd.N_drewN|apply Kd.N_drew));exact (Kd.N_mono (Kd.N_far (p:=⟨gb340,5,none⟩) (Kd.N_far (p:=⟨gb340,4,none⟩) (Kd.N_far (p:=⟨gb340,3,none⟩) (Kd.N_far (p:=⟨gb340,2,none⟩) (Kd.N_far (p:=⟨gb340,1,none⟩) (Kd.N_far (p:=⟨gb340,0,none⟩) (Kd.N_mono HO328.out (fun k_ hk=>(⟨hk,hk.2⟩ : _∧k_ ≠ gb340))) (fun _ hk=>hk.2) (.bool t331)) (fun _ hk=>hk.2) (.bool t332)) (fun _ hk=>hk.2) (.int .i64 t333)) (fun _ hk=>hk.2) (.int .i64 t334)) (fun _ hk=>hk.2) (.int .i64 t335)) (fun _ hk=>hk.2) (.slice Ao17 t336.length co17)) (fun _ h_=>h_.1))));(case side2=>exact (Kd.N_reads' HO328.out).2.1);(case side3=>refine (Kd.N_reads' (e:=57) (base:=w.heap.size) (ok:=fun k_=>((some k_ ≠ (.slice Ao8 t317.length co8 : Value).ownBlock∧(some k_ ≠ (.slice Ao12 t326.length co12 : Value).ownBlock∧k_ ≠ gb330))∧k_ ≠ gb340)) (n:=t336.length) (c:=co17) ?_).2.2;exact (by (with_reducible repeat (first|apply Kd.N_alloc|apply Kd.N_drewN|apply Kd.N_drew));exact (Kd.N_mono (Kd.N_far (p:=⟨gb340,5,none⟩) (Kd.N_far (p:=⟨gb340,4,none⟩) (Kd.N_far (p:=⟨gb340,3,none⟩) (Kd.N_far (p:=⟨gb340,2,none⟩) (Kd.N_far (p:=⟨gb340,1,none⟩) (Kd.N_far (p:=⟨gb340,0,none⟩) (Kd.N_mono HO338.out (fun k_ hk=>(⟨hk,hk.2⟩ : _∧k_ ≠ gb340))) (fun _ hk=>hk.2) (.bool t331)) (fun _ hk=>hk.2) (.bool t332)) (fun _ hk=>hk.2) (.int .i64 t333)) (fun _ hk=>hk.2) (.int .i64 t334)) (fun _ hk=>hk.2) (.int .i64 t335)) (fun _ hk=>hk.2) (.slice Ao17 t336.length co17)) (fun _ h_=>h_.1))));(case side4=>exact (Kd.N_reads' HO338.out).2.1);rintro e w33 ⟨rfl,hb⟩;have n0_:=Aside0.mk (Kd.N_below (by (with_reducible repeat (first|apply Kd.N_alloc|apply Kd.N_drewN|apply Kd.N_drew));exact (Kd.N_mono (Kd.N_far (p:=⟨gb340,5,none⟩) (Kd.N_far (p:=⟨gb340,4,none⟩) (Kd.N_far (p:=⟨gb340,3,none⟩) (Kd.N_far (p:=⟨gb340,2,none⟩) (Kd.N_far (p:=⟨gb340,1,none⟩) (Kd.N_far (p:=⟨gb340,0,none⟩) (Kd.N_mono HO320.out (fun k_ hk=>(⟨hk,hk.2⟩ : _∧k_ ≠ gb340))) (fun _ hk=>hk.2) (.bool t331)) (fun _ hk=>hk.2) (.bool t332)) (fun _ hk=>hk.2) (.int .i64 t333)) (fun _ hk=>hk.2) (.int .i64 t334)) (fun _ hk=>hk.2) (.int .i64 t335)) (fun _ hk=>hk.2) (.slice Ao17 t336.length co17)) (fun _ h_=>h_.1))) hb);have n1_:=Aside0.mk (Kd.N_below (by (with_reducible repeat (first|apply Kd.N_alloc|apply Kd.N_drewN|apply Kd.N_drew));exact (Kd.N_mono (Kd.N_far (p:=⟨gb340,5,none⟩) (Kd.N_far (p:=⟨gb340,4,none⟩) (Kd.N_far (p:=⟨gb340,3,none⟩) (Kd.N_far (p:=⟨gb340,2,none⟩) (Kd.N_far (p:=⟨gb340,1,none⟩) (Kd.N_far (p:=⟨gb340,0,none⟩) (Kd.N_mono HO328.out (fun k_ hk=>(⟨hk,hk.2⟩ : _∧k_ ≠ gb340))) (fun _ hk=>hk.2) (.bool t331)) (fun _ hk=>hk.2) (.bool t332)) (fun _ hk=>hk.2) (.int .i64 t333)) (fun _ hk=>hk.2) (.int .i64 t334)) (fun _ hk=>hk.2) (.int .i64 t335)) (fun _ hk=>hk.2) (.slice Ao17 t336.length co17)) (fun _ h_=>h_.1))) hb);have n2_:=Aside0.mk (Kd.N_below (by (with_reducible repeat (first|apply Kd.N_alloc|apply Kd.N_drewN|apply Kd.N_drew));exact (Kd.N_mono (Kd.N_far (p:=⟨gb340,5,none⟩) (Kd.N_far (p:=⟨gb340,4,none⟩) (Kd.N_far (p:=⟨gb340,3,none⟩) (Kd.N_far (p:=⟨gb340,2,none⟩) (Kd.N_far (p:=⟨gb340,1,none⟩) (Kd.N_far (p:=⟨gb340,0,none⟩) (Kd.N_mono HO338.out (fun k_ hk=>(⟨hk,hk.2⟩ : _∧k_ ≠ gb340))) (fun _ hk=>hk.2) (.bool t331)) (fun _ hk=>hk.2) (.bool t332)) (fun _ hk=>hk.2) (.int .i64 t333)) (fun _ hk=>hk.2) (.int .i64 t334)) (fun _ hk=>hk.2) (.int .i64 t335)) (fun _ hk=>hk.2) (.slice Ao17 t336.length co17)) (fun _ h_=>h_.1))) hb);have n3_:=Aside0.mk (blk_below (g:=gb330) (o:=.cells #[.bool t321,.bool t322,.int .i64 t323,.int .i64 t324,.int .i64 t325,.slice Ao12 t326.length co12] 39 (0,0)) (by (with_reducible repeat (first|refine blk_drewN ?_ _|refine blk_drew ?_|refine blk_alloc ?_ _));refine blk_far ?_ NB330_340.out _;(with_reducible repeat (first|refine blk_drewN ?_ _|refine blk_drew ?_|refine blk_alloc ?_ _));refine blk_far ?_ NB330_340.out _;(with_reducible repeat (first|refine blk_drewN ?_ _|refine blk_drew ?_|refine blk_alloc ?_ _));refine blk_far ?_ NB330_340.out _;(with_reducible repeat (first|refine blk_drewN ?_ _|refine blk_drew ?_|refine blk_alloc ?_ _));refine blk_far ?_ NB330_340.out _;(with_reducible repeat (first|refine blk_drewN ?_ _|refine blk_drew ?_|refine blk_alloc ?_ _));refine blk_far ?_ NB330_340.out _;(with_reducible repeat (first|refine blk_drewN ?_ _|refine blk_drew ?_|refine blk_alloc ?_ _));refine blk_far ?_ NB330_340.out _;(with_reducible repeat (first|refine blk_drewN ?_ _|refine blk_drew ?_|refine blk_alloc ?_ _));exact BK330.out) hb);have n4_:=Aside0.mk (blk_below (g:=gb340) (o:=.cells #[.bool t331,.bool t332,.int .i64 t333,.int .i64 t334,.int .i64 t335,.slice Ao17 t336.length co17] 39 (0,0)) (by (with_reducible repeat (first|refine blk_drewN ?_ _|refine blk_drew ?_|refine blk_alloc ?_ _));refine blk_put (cs:=#[.bool t331,.bool t332,.int .i64 t333,.int .i64 t334,.int .i64 t335,.slice none 0 0]) ?_ 5 _ rfl;(with_reducible repeat (first|refine blk_drewN ?_ _|refine blk_drew ?_|refine blk_alloc ?_ _));refine blk_put (cs:=#[.bool t331,.bool t332,.int .i64 t333,.int .i64 t334,.int .i64 0,.slice none 0 0]) ?_ 4 _ rfl;(with_reducible repeat (first|refine blk_drewN ?_ _|refine blk_drew ?_|refine blk_alloc ?_ _));refine blk_put (cs:=#[.bool t331,.bool t332,.int .i64 t333,.int .i64 0,.int .i64 0,.slice none 0 0]) ?_ 3 _ rfl;(with_reducible repeat (first|refine blk_drewN ?_ _|refine blk_drew ?_|refine blk_alloc ?_ _));refine blk_put (cs:=#[.bool t331,.bool t332,.int .i64 0,.int .i64 0,.int .i64 0,.slice none 0 0]) ?_ 2 _ rfl;(with_reducible repeat (first|refine blk_drewN ?_ _|refine blk_drew ?_|refine blk_alloc ?_ _));refine blk_put (cs:=#[.bool t331,.bool false,.int .i64 0,.int .i64 0,.int .i64 0,.slice none 0 0]) ?_ 1 _ rfl;(with_reducible repeat (first|refine blk_drewN ?_ _|refine blk_drew ?_|refine blk_alloc ?_ _));refine blk_put (cs:=#[.bool false,.bool false,.int .i64 0,.int .i64 0,.int .i64 0,.slice none 0 0]) ?_ 0 _ rfl;(with_reducible repeat (first|refine blk_drewN ?_ _|refine blk_drew ?_|refine blk_alloc ?_ _));exact BK340.out) hb);have n5_:=Aside0.mk (below_step (by repeat (first|(with_reducible first|exact HB.out|apply below_alloc|apply pw_below_drewN|apply below_drew1|refine below_set ?_ GE330.out|refine below_set ?_ GE340.out)|exact HB.out)) hb);clear HO320;clear HO328;clear HO338;clear BK330;clear BK340;clear HB;have HO320:=n0_;have HO328:=n1_;have HO338:=n2_;have BK330:=n3_;have BK340:=n4_;have HB:=n5_;clear n0_ n1_ n2_ n3_ n4_ n5_;(try clear hb);(try clear hb2);(try clear hk);(try clear hi)))
     go_meet
     case rel=>exact ⟨_,(true),(by first|rfl|(simp;done)|(simp [*];done)),H',⟨by first|omega|exact Nat.le_refl _⟩,⟨by (with_reducible repeat (first|apply Kd.N_alloc|apply Kd.N_drewN|apply Kd.N_drew));exact Kd.N_mono HO320.out (fun _ hk=>⟨hk.1.1.1.2,⟨hk.1.2,⟨hk.1.1.2,hk.2⟩⟩⟩)⟩,⟨by (with_reducible repeat (first|apply Kd.N_alloc|apply Kd.N_drewN|apply Kd.N_drew));exact Kd.N_mono HO328.out (fun _ hk=>⟨hk.1.1.1,⟨hk.1.2,⟨hk.1.1.2,hk.2⟩⟩⟩)⟩,⟨by (with_reducible repeat (first|apply Kd.N_alloc|apply Kd.N_drewN|apply Kd.N_drew));exact Kd.N_mono HO338.out (fun _ hk=>⟨hk.1.1,⟨hk.1.2.1,⟨hk.1.2.2,hk.2⟩⟩⟩)⟩,⟨by (with_reducible repeat (first|refine blk_drewN ?_ _|refine blk_drew ?_|refine blk_alloc ?_ _));exact BK330.out⟩,⟨by (with_reducible repeat (first|refine blk_drewN ?_ _|refine blk_drew ?_|refine blk_alloc ?_ _));exact BK340.out⟩,⟨by repeat (first|(with_reducible first|exact HB.out|apply below_alloc|apply pw_below_drewN|apply below_drew1|refine below_set ?_ GE330.out|refine below_set ?_ GE340.out)|exact HB.out)⟩⟩
  case rest =>
   clear HC6
   try clear c1
   try clear c2
   try clear c2b0
   try clear c2b1
   try clear p2
   try clear c3
   try clear c9
   try clear c15
   try clear c18
   try clear c18b0
   try clear c18b1
   try clear c18b2
   try clear c20
   try clear c21
   try clear c22
   try clear c23
   try clear c25
   try clear c26
   try clear c30
   try clear hcz11_0
   try clear hcz11_1
   try clear hcz11_2
   try clear hcz11_3
   try clear hcz11_4
   try clear hcz11_5
   try clear hcz16_0
   try clear hcz16_1
   try clear hcz16_2
   try clear hcz16_3
   try clear hcz16_4
   try clear hcz16_5
   try clear hcz23_0
   try clear hcz23_1
   try clear hcz23_2
   try clear hcz23_3
   try clear hcz23_4
   try clear hcz23_5
   try clear hcz24_0
   try clear hcz24_1
   try clear hcz24_2
   try clear hcz24_3
   try clear hcz24_4
   try clear hcz24_5
   try clear hcz27_0
   try clear hcz27_1
   try clear hcz27_2
   try clear hcz27_3
   try clear hcz27_4
   try clear hcz27_5
   try clear hcz28_0
   try clear hcz28_1
   try clear hcz28_2
   try clear hcz28_3
   try clear hcz28_4
   try clear hcz28_5
   try clear hcz31_0
   try clear hcz31_1
   try clear hcz31_2
   try clear hcz31_3
   try clear hcz31_4
   try clear hcz31_5
   try clear hcz32_0
   try clear hcz32_1
   try clear hcz32_2
   try clear hcz32_3
   try clear hcz32_4
   try clear hcz32_5
   try clear hfz11_0
   try clear hfz11_1
   try clear hfz11_2
   try clear hfz11_3
   try clear hfz11_4
   try clear hfz11_5
   try clear hfz16_0
   try clear hfz16_1
   try clear hfz16_2
   try clear hfz16_3
   try clear hfz16_4
   try clear hfz16_5
   try clear hfz23_0
   try clear hfz23_1
   try clear hfz23_2
   try clear hfz23_3
   try clear hfz23_4
   try clear hfz23_5
   try clear hfz24_0
   try clear hfz24_1
   try clear hfz24_2
   try clear hfz24_3
   try clear hfz24_4
   try clear hfz24_5
   try clear hfz27_0
   try clear hfz27_1
   try clear hfz27_2
   try clear hfz27_3
   try clear hfz27_4
   try clear hfz27_5
   try clear hfz28_0
   try clear hfz28_1
   try clear hfz28_2
   try clear hfz28_3
   try clear hfz28_4
   try clear hfz28_5
   try clear hfz31_0
   try clear hfz31_1
   try clear hfz31_2
   try clear hfz31_3
   try clear hfz31_4
   try clear hfz31_5
   try clear hfz32_0
   try clear hfz32_1
   try clear hfz32_2
   try clear hfz32_3
   try clear hfz32_4
   try clear hfz32_5
   obtain ⟨kq,x50_5,rfl,HA,HJ5,HO_3,HO_331005,HO_341005,BK330,BK340,HB⟩:=hcut
   cases kq with
   | zero=>exact absurd HA.out (by simp [laws_FnTurnOrder.j0])
   | succ kj5 =>
    have H:=HA.out
    clear HA
    simp only [laws_FnTurnOrder.j0] at H
    by_cases c34 : x50_5=true
    ·subst c34
     have H1 : (if (t329 == t339)=true then ((laws_sameBatch.f kj5 t321 t322 t323 t324 t325 t326 t331 t332 t333 t334 t335 t336).bind fun t342=>(some t342)) else (some false))=some r:=by rw [if_pos rfl] at H;exact H
     clear H
     have H:=H1
     clear H1
     by_cases c35 : (t329 == t339)=true
     ·rw [if_pos c35] at H
      have c35b0 : (t329 == t339)=true:=c35
      (try (have c35b1 : decide (t329=t339)=true:=by simpa using c35))
      (try (have c35b2 : (t329 == t339)=true:=by simpa using c35))
      clear c35
      replace H:=Option.bind_eq_some_iff.mp H
      obtain ⟨t342,A360,H⟩:=H
      replace H : (some t342)=some r:=H
      have A36:=Aside0.mk A360
      clear A360
      obtain rfl:=Option.some.inj H
      have hnb37:=NB330_340.out
      have hnc37:=NB340_330.out
      have hcz38_0 : wc.cell? ⟨gb330,0,none⟩ = some (.bool t321):=(blk_cell BK330.out 0).trans rfl
      have hcz38_1 : wc.cell? ⟨gb330,1,none⟩ = some (.bool t322):=(blk_cell BK330.out 1).trans rfl
      have hcz38_2 : wc.cell? ⟨gb330,2,none⟩ = some (.int .i64 t323):=(blk_cell BK330.out 2).trans rfl
      have hcz38_3 : wc.cell? ⟨gb330,3,none⟩ = some (.int .i64 t324):=(blk_cell BK330.out 3).trans rfl
      have hcz38_4 : wc.cell? ⟨gb330,4,none⟩ = some (.int .i64 t325):=(blk_cell BK330.out 4).trans rfl
      have hcz38_5 : wc.cell? ⟨gb330,5,none⟩ = some (.slice Ao12 t326.length co12):=(blk_cell BK330.out 5).trans rfl
      have hfz38_0:=blk_frozen BK330.out 0
      have hfz38_1:=blk_frozen BK330.out 1
      have hfz38_2:=blk_frozen BK330.out 2
      have hfz38_3:=blk_frozen BK330.out 3
      have hfz38_4:=blk_frozen BK330.out 4
      have hfz38_5:=blk_frozen BK330.out 5
      have hcz39_0 : wc.cell? ⟨gb340,0,none⟩ = some (.bool t331):=(blk_cell BK340.out 0).trans rfl
      have hcz39_1 : wc.cell? ⟨gb340,1,none⟩ = some (.bool t332):=(blk_cell BK340.out 1).trans rfl
      have hcz39_2 : wc.cell? ⟨gb340,2,none⟩ = some (.int .i64 t333):=(blk_cell BK340.out 2).trans rfl
      have hcz39_3 : wc.cell? ⟨gb340,3,none⟩ = some (.int .i64 t334):=(blk_cell BK340.out 3).trans rfl
      have hcz39_4 : wc.cell? ⟨gb340,4,none⟩ = some (.int .i64 t335):=(blk_cell BK340.out 4).trans rfl
      have hcz39_5 : wc.cell? ⟨gb340,5,none⟩ = some (.slice Ao17 t336.length co17):=(blk_cell BK340.out 5).trans rfl
      have hfz39_0:=blk_frozen BK340.out 0
      have hfz39_1:=blk_frozen BK340.out 1
      have hfz39_2:=blk_frozen BK340.out 2
      have hfz39_3:=blk_frozen BK340.out 3
      have hfz39_4:=blk_frozen BK340.out 4
      have hfz39_5:=blk_frozen BK340.out 5
      go_wp2_with (first|(go_at_call 37;(with_reducible refine (laws_sameBatch.calls kj5 t321 t322 t323 t324 t325 _ _ t326 t331 t332 t333 t334 t335 _ _ t336 t342 _ ?side1 ?side2 ?side3 ?side4 A36.out).mono ?_);(case side1=>repeat (first|exact (Kd.N_reads' HO_331005.out).2.2|(with_reducible refine Kd.C_alloc ?_ _)|(with_reducible refine Kd.C_drewN ?_ _)|(with_reducible refine Kd.C_drew ?_)));(case side2=>exact (Kd.N_reads' HO_331005.out).2.1);(case side3=>repeat (first|exact (Kd.N_reads' HO_341005.out).2.2|(with_reducible refine Kd.C_alloc ?_ _)|(with_reducible refine Kd.C_drewN ?_ _)|(with_reducible refine Kd.C_drew ?_)));(case side4=>exact (Kd.N_reads' HO_341005.out).2.1);rintro e w40 ⟨rfl,hb⟩;have n0_:=Aside0.mk (Kd.N_below (by (with_reducible repeat (first|apply Kd.N_alloc|apply Kd.N_drewN|apply Kd.N_drew));exact HO_3.out) hb);have n1_:=Aside0.mk (Kd.N_below (by (with_reducible repeat (first|apply Kd.N_alloc|apply Kd.N_drewN|apply Kd.N_drew));exact HO_331005.out) hb);have n2_:=Aside0.mk (Kd.N_below (by (with_reducible repeat (first|apply Kd.N_alloc|apply Kd.N_drewN|apply Kd.N_drew));exact HO_341005.out) hb);have n3_:=Aside0.mk (blk_below (g:=gb330) (o:=.cells #[.bool t321,.bool t322,.int .i64 t323,.int .i64 t324,.int .i64 t325,.slice Ao12 t326.length co12] 39 (0,0)) (by (with_reducible repeat (first|refine blk_drewN ?_ _|refine blk_drew ?_|refine blk_alloc ?_ _));exact BK330.out) hb);have n4_:=Aside0.mk (blk_below (g:=gb340) (o:=.cells #[.bool t331,.bool t332,.int .i64 t333,.int .i64 t334,.int .i64 t335,.slice Ao17 t336.length co17] 39 (0,0)) (by (with_reducible repeat (first|refine blk_drewN ?_ _|refine blk_drew ?_|refine blk_alloc ?_ _));exact BK340.out) hb);have n5_:=Aside0.mk (below_step (by repeat (first|(with_reducible first|exact HB.out|apply below_alloc|apply pw_below_drewN|apply below_drew1|refine below_set ?_ GE330.out|refine below_set ?_ GE340.out)|exact HB.out)) hb);clear HO_3;clear HO_331005;clear HO_341005;clear BK330;clear BK340;clear HB;have HO_3:=n0_;have HO_331005:=n1_;have HO_341005:=n2_;have BK330:=n3_;have BK340:=n4_;have HB:=n5_;clear n0_ n1_ n2_ n3_ n4_ n5_;(try clear hb);(try clear hb2);(try clear hk);(try clear hi)))
      go_ret
      exact ⟨by first|rfl|(simp [errW_none,errW_some] <;> rfl)|(simp [*,errW_none,errW_some] <;> rfl),by repeat (first|(with_reducible first|exact HB.out|apply below_alloc|apply pw_below_drewN|apply below_drew1|refine below_set ?_ GE330.out|refine below_set ?_ GE340.out)|exact HB.out)⟩
     ·rw [if_neg c35] at H
      have c35b0 : (t329 == t339)=false:=by simpa using c35
      (try (have c35b1 : decide (t329=t339)=false:=by simpa using c35))
      (try (have c35b2 : (t329 == t339)=false:=by simpa using c35))
      (try (have c35b3 : ¬ (t329=t339):=by simpa using c35))
      clear c35
      obtain rfl:=Option.some.inj H
      go_wp2
      go_ret
      exact ⟨by first|rfl|(simp [errW_none,errW_some] <;> rfl)|(simp [*,errW_none,errW_some] <;> rfl),by repeat (first|(with_reducible first|exact HB.out|apply below_alloc|apply pw_below_drewN|apply below_drew1|refine below_set ?_ GE330.out|refine below_set ?_ GE340.out)|exact HB.out)⟩
    ·replace c34:=Bool.eq_false_iff.mpr c34
     subst c34
     have H1 : (laws_FnTurnOrder.l0 kj5 t317 t318 (([] : List (S26))) (wrap64 ((t317.length : Int) - 1)))=some r:=by rw [if_neg (show ¬ (false=true) by decide)] at H;exact H
     clear H
     have H:=H1
     clear H1
     obtain ⟨y343,hy343⟩ : ∃ y_ : List (S26),y_=(([] : List (S26))):=⟨_,rfl⟩
     replace H : (laws_FnTurnOrder.l0 kj5 t317 t318 y343 (wrap64 ((t317.length : Int) - 1)))=some r:=by first|(rw [hy343];with_reducible exact H)|(have H2_:=(Option.bind_some _ _).symm.trans H;rw [hy343];with_reducible exact H2_)|(have H2_:=(Option.bind_some _ _).symm.trans H;with_reducible exact H2_)|with_reducible exact H|(rw [hy343];exact H)|exact H
     have Ny343:=Aside0.mk hy343
     clear hy343
     have H':=Aside0.mk H
     clear H
     go_wp2_with (first|((with_reducible refine gate_dst (N:=59) rfl ?_);(try (refine gate_guard (by rfl) ?_;dsimp only));refine Kd.N_lit k26 _ 26 ?hg (N':=59) ?hd (xs:=([] : List (S26))) (inner:=[]) (ok:=(fun k_=>some k_ ≠ (.slice Ao8 t317.length co8 : Value).ownBlock∧some k_ ≠ (.slice Ao12 t326.length co12 : Value).ownBlock∧some k_ ≠ (.slice Ao17 t336.length co17 : Value).ownBlock∧k_ ≠ gb330∧k_ ≠ gb340)) (okp:=(fun k_=>some k_ ≠ (.slice Ao8 t317.length co8 : Value).ownBlock∧some k_ ≠ (.slice Ao12 t326.length co12 : Value).ownBlock∧some k_ ≠ (.slice Ao17 t336.length co17 : Value).ownBlock∧k_ ≠ gb330∧k_ ≠ gb340)) ?hr ?hp (fun _ hk=>hk) ((show ∀ k_,wc.heap.size ≤ k_→(fun k_=>some k_ ≠ (.slice Ao8 t317.length co8 : Value).ownBlock∧some k_ ≠ (.slice Ao12 t326.length co12 : Value).ownBlock∧some k_ ≠ (.slice Ao17 t336.length co17 : Value).ownBlock∧k_ ≠ gb330∧k_ ≠ gb340) k_ from fun k_ hk=>⟨Kd.fresh' (Kd.N_lt (by (with_reducible repeat (first|apply Kd.N_alloc|apply Kd.N_drewN|apply Kd.N_drew));exact HO_3.out)) k_ hk,Kd.fresh' (Kd.N_lt (by (with_reducible repeat (first|apply Kd.N_alloc|apply Kd.N_drewN|apply Kd.N_drew));exact HO_331005.out)) k_ hk,Kd.fresh' (Kd.N_lt (by (with_reducible repeat (first|apply Kd.N_alloc|apply Kd.N_drewN|apply Kd.N_drew));exact HO_341005.out)) k_ hk,Kd.freshB (g:=gb330) (o:=.cells #[.bool t321,.bool t322,.int .i64 t323,.int .i64 t324,.int .i64 t325,.slice Ao12 t326.length co12] 39 (0,0)) (by (with_reducible repeat (first|refine blk_drewN ?_ _|refine blk_drew ?_|refine blk_alloc ?_ _));exact BK330.out) k_ hk,Kd.freshB (g:=gb340) (o:=.cells #[.bool t331,.bool t332,.int .i64 t333,.int .i64 t334,.int .i64 t335,.slice Ao17 t336.length co17] 39 (0,0)) (by (with_reducible repeat (first|refine blk_drewN ?_ _|refine blk_drew ?_|refine blk_alloc ?_ _));exact BK340.out) k_ hk⟩) _ (Nat.le_refl _)) (Below.refl _ _) (Nat.le_refl _) (by simp) ?_;(case hd=>rfl);(case hg=>rfl);(case hr=>first|(go_simp;done)|(go_simp;rfl));(case hp=>exact (Reps.none _ _));intro v344 w41 ho42 hb hg_ hnew_;clear hg_ hnew_;(first|rw [← Ny343.out] at ho42|(simp only [Int.reduceToNat] at ho42;rw [← Ny343.out] at ho42));have n0_:=Aside0.mk (Kd.N_elder' (by (with_reducible repeat (first|apply Kd.N_alloc|apply Kd.N_drewN|apply Kd.N_drew));exact HO_3.out) (by first|exact Kd.N_base ho42|exact Kd.N_base (Kd.S_N (Kd.S_bound ho42))) hb);have n1_:=Aside0.mk (Kd.N_elder' (by (with_reducible repeat (first|apply Kd.N_alloc|apply Kd.N_drewN|apply Kd.N_drew));exact HO_331005.out) (by first|exact Kd.N_base ho42|exact Kd.N_base (Kd.S_N (Kd.S_bound ho42))) hb);have n2_:=Aside0.mk (Kd.N_elder' (by (with_reducible repeat (first|apply Kd.N_alloc|apply Kd.N_drewN|apply Kd.N_drew));exact HO_341005.out) (by first|exact Kd.N_base ho42|exact Kd.N_base (Kd.S_N (Kd.S_bound ho42))) hb);have n3_:=Aside0.mk (Kd.N_lower ho42 (below_size (by repeat (first|(with_reducible first|exact HB.out|apply below_alloc|apply pw_below_drewN|apply below_drew1|refine below_set ?_ GE330.out|refine below_set ?_ GE340.out)|exact HB.out))));have n4_:=Aside0.mk (blk_below (g:=gb330) (o:=.cells #[.bool t321,.bool t322,.int .i64 t323,.int .i64 t324,.int .i64 t325,.slice Ao12 t326.length co12] 39 (0,0)) (by (with_reducible repeat (first|refine blk_drewN ?_ _|refine blk_drew ?_|refine blk_alloc ?_ _));exact BK330.out) hb);have n5_:=Aside0.mk (blk_below (g:=gb340) (o:=.cells #[.bool t331,.bool t332,.int .i64 t333,.int .i64 t334,.int .i64 t335,.slice Ao17 t336.length co17] 39 (0,0)) (by (with_reducible repeat (first|refine blk_drewN ?_ _|refine blk_drew ?_|refine blk_alloc ?_ _));exact BK340.out) hb);have n6_:=Aside0.mk (below_step (by repeat (first|(with_reducible first|exact HB.out|apply below_alloc|apply pw_below_drewN|apply below_drew1|refine below_set ?_ GE330.out|refine below_set ?_ GE340.out)|exact HB.out)) hb);clear HO_3;clear HO_331005;clear HO_341005;clear BK330;clear BK340;clear HB;have HO_3:=n0_;have HO_331005:=n1_;have HO_341005:=n2_;have HO345:=n3_;have BK330:=n4_;have BK340:=n5_;have HB:=n6_;clear n0_ n1_ n2_ n3_ n4_ n5_ n6_;clear hb ho42))
     go_loopg [9,10] kj5 (fun kq v9 v10 w'=>∃ (x9_2 : List (S26)) (x10_2 : Int),v10 = .int .i64 x10_2∧Aside0 (laws_FnTurnOrder.l0 kq t317 t318 x9_2 x10_2=some r)∧Aside0 (kq ≤ kj5)∧Aside0 (Kd.N k26 26 w' w.heap.size (fun k_=>some k_ ≠ (v9 : Value).ownBlock∧some k_ ≠ ((.slice Ao12 t326.length co12) : Value).ownBlock∧some k_ ≠ ((.slice Ao17 t336.length co17) : Value).ownBlock∧k_ ≠ gb330∧k_ ≠ gb340) (.slice Ao8 t317.length co8) t317)∧Aside0 (Kd.N k26 26 w' w.heap.size (fun k_=>some k_ ≠ ((.slice Ao8 t317.length co8) : Value).ownBlock∧some k_ ≠ ((.slice Ao12 t326.length co12) : Value).ownBlock∧some k_ ≠ ((.slice Ao17 t336.length co17) : Value).ownBlock∧k_ ≠ gb330∧k_ ≠ gb340) v9 x9_2)∧Aside0 (Kd.N k57 57 w' w.heap.size (fun k_=>some k_ ≠ ((.slice Ao8 t317.length co8) : Value).ownBlock∧some k_ ≠ (v9 : Value).ownBlock∧some k_ ≠ ((.slice Ao17 t336.length co17) : Value).ownBlock∧k_ ≠ gb330∧k_ ≠ gb340) (.slice Ao12 t326.length co12) t326)∧Aside0 (Kd.N k57 57 w' w.heap.size (fun k_=>some k_ ≠ ((.slice Ao8 t317.length co8) : Value).ownBlock∧some k_ ≠ (v9 : Value).ownBlock∧some k_ ≠ ((.slice Ao12 t326.length co12) : Value).ownBlock∧k_ ≠ gb330∧k_ ≠ gb340) (.slice Ao17 t336.length co17) t336)∧Aside0 (w'.heap[gb330]? = some (.cells #[.bool t321,.bool t322,.int .i64 t323,.int .i64 t324,.int .i64 t325,(.slice Ao12 t326.length co12)] 39 (0,0)))∧Aside0 (w'.heap[gb340]? = some (.cells #[.bool t331,.bool t332,.int .i64 t333,.int .i64 t334,.int .i64 t335,(.slice Ao17 t336.length co17)] 39 (0,0)))∧Aside0 (Below w.heap.size w w'))
     case atStart=>exact ⟨(y343),(wrap64 ((t317.length : Int) - 1)),(by first|rfl|(simp;done)|(simp [*];done)),H',⟨Nat.le_refl _⟩,⟨by (with_reducible repeat (first|apply Kd.N_alloc|apply Kd.N_drewN|apply Kd.N_drew));exact Kd.N_mono HO_3.out (fun _ hk=>⟨hk.2,⟨hk.1.1,⟨hk.1.2.1,⟨hk.1.2.2.1,hk.1.2.2.2⟩⟩⟩⟩)⟩,⟨by (with_reducible repeat (first|apply Kd.N_alloc|apply Kd.N_drewN|apply Kd.N_drew));exact HO345.out⟩,⟨by (with_reducible repeat (first|apply Kd.N_alloc|apply Kd.N_drewN|apply Kd.N_drew));exact Kd.N_mono HO_331005.out (fun _ hk=>⟨hk.1.1,⟨hk.2,⟨hk.1.2.1,⟨hk.1.2.2.1,hk.1.2.2.2⟩⟩⟩⟩)⟩,⟨by (with_reducible repeat (first|apply Kd.N_alloc|apply Kd.N_drewN|apply Kd.N_drew));exact Kd.N_mono HO_341005.out (fun _ hk=>⟨hk.1.1,⟨hk.2,⟨hk.1.2.1,⟨hk.1.2.2.1,hk.1.2.2.2⟩⟩⟩⟩)⟩,⟨by (with_reducible repeat (first|refine blk_drewN ?_ _|refine blk_drew ?_|refine blk_alloc ?_ _));exact BK330.out⟩,⟨by (with_reducible repeat (first|refine blk_drewN ?_ _|refine blk_drew ?_|refine blk_alloc ?_ _));exact BK340.out⟩,⟨by repeat (first|(with_reducible first|exact HB.out|apply below_alloc|apply pw_below_drewN|apply below_drew1|refine below_set ?_ GE330.out|refine below_set ?_ GE340.out)|exact HB.out)⟩⟩
     case round =>
      clear H'
      try clear c1
      try clear c2
      try clear c2b0
      try clear c2b1
      try clear p2
      try clear c3
      try clear p6
      try clear c9
      try clear c15
      try clear c18
      try clear c18b0
      try clear c18b1
      try clear c18b2
      try clear c20
      try clear c21
      try clear c22
      try clear c23
      try clear c25
      try clear c26
      try clear c30
      try clear c34
      try clear c35
      try clear c35b0
      try clear c35b1
      try clear c35b2
      try clear c36
      try clear c37
      try clear hcz11_0
      try clear hcz11_1
      try clear hcz11_2
      try clear hcz11_3
      try clear hcz11_4
      try clear hcz11_5
      try clear hcz16_0
      try clear hcz16_1
      try clear hcz16_2
      try clear hcz16_3
      try clear hcz16_4
      try clear hcz16_5
      try clear hcz23_0
      try clear hcz23_1
      try clear hcz23_2
      try clear hcz23_3
      try clear hcz23_4
      try clear hcz23_5
      try clear hcz24_0
      try clear hcz24_1
      try clear hcz24_2
      try clear hcz24_3
      try clear hcz24_4
      try clear hcz24_5
      try clear hcz27_0
      try clear hcz27_1
      try clear hcz27_2
      try clear hcz27_3
      try clear hcz27_4
      try clear hcz27_5
      try clear hcz28_0
      try clear hcz28_1
      try clear hcz28_2
      try clear hcz28_3
      try clear hcz28_4
      try clear hcz28_5
      try clear hcz31_0
      try clear hcz31_1
      try clear hcz31_2
      try clear hcz31_3
      try clear hcz31_4
      try clear hcz31_5
      try clear hcz32_0
      try clear hcz32_1
      try clear hcz32_2
      try clear hcz32_3
      try clear hcz32_4
      try clear hcz32_5
      try clear hcz38_0
      try clear hcz38_1
      try clear hcz38_2
      try clear hcz38_3
      try clear hcz38_4
      try clear hcz38_5
      try clear hcz39_0
      try clear hcz39_1
      try clear hcz39_2
      try clear hcz39_3
      try clear hcz39_4
      try clear hcz39_5
      try clear hfz11_0
      try clear hfz11_1
      try clear hfz11_2
      try clear hfz11_3
      try clear hfz11_4
      try clear hfz11_5
      try clear hfz16_0
      try clear hfz16_1
      try clear hfz16_2
      try clear hfz16_3
      try clear hfz16_4
      try clear hfz16_5
      try clear hfz23_0
      try clear hfz23_1
      try clear hfz23_2
      try clear hfz23_3
      try clear hfz23_4
      try clear hfz23_5
      try clear hfz24_0
      try clear hfz24_1
      try clear hfz24_2
      try clear hfz24_3
      try clear hfz24_4
      try clear hfz24_5
      try clear hfz27_0
      try clear hfz27_1
      try clear hfz27_2
      try clear hfz27_3
      try clear hfz27_4
      try clear hfz27_5
      try clear hfz28_0
      try clear hfz28_1
      try clear hfz28_2
      try clear hfz28_3
      try clear hfz28_4
      try clear hfz28_5
      try clear hfz31_0
      try clear hfz31_1
      try clear hfz31_2
      try clear hfz31_3
      try clear hfz31_4
      try clear hfz31_5
      try clear hfz32_0
      try clear hfz32_1
      try clear hfz32_2
      try clear hfz32_3
      try clear hfz32_4
      try clear hfz32_5
      try clear hfz38_0
      try clear hfz38_1
      try clear hfz38_2
      try clear hfz38_3
      try clear hfz38_4
      try clear hfz38_5
      try clear hfz39_0
      try clear hfz39_1
      try clear hfz39_2
      try clear hfz39_3
      try clear hfz39_4
      try clear hfz39_5
      try clear p2
      obtain ⟨x9_2,x10_2,rfl,HA,HK2,HO_3,HO_9,HO_331005,HO_341005,BK330,BK340,HB⟩:=hrel
      cases gk with
      | zero=>exact absurd HA.out (by simp [laws_FnTurnOrder.l0])
      | succ k2 =>
       have H:=HA.out
       clear HA
       simp only [laws_FnTurnOrder.l0] at H
       by_cases c43 : x10_2 ≥ 0
       ·rw [if_pos c43] at H
        have c43b0 : decide (0 ≤ x10_2)=true:=decide_eq_true c43
        clear c43
        by_cases c44 : 0 ≤ x10_2
        ·rw [if_pos c44] at H
         have c44b0 : decide (0 ≤ x10_2)=true:=decide_eq_true c44
         clear c44
         by_cases c45 : x10_2 < (t317.length : Int)
         ·rw [if_pos c45] at H
          have c45b0 : decide (x10_2 < (t317.length : Int))=true:=decide_eq_true c45
          clear c45
          by_cases c46 : x9_2.length < 1759218604441
          ·rw [if_pos c46] at H
           have LMc46:=Aside0.mk c46
           clear c46
           obtain ⟨y347,hy347⟩ : ∃ y_ : List (S26),y_=(x9_2 ++ [(⟨(rd_T26 t317 x10_2).f0,(rd_T26 t317 x10_2).f1,(rd_T26 t317 x10_2).f2,(rd_T26 t317 x10_2).f3,(rd_T26 t317 x10_2).f4,(rd_T26 t317 x10_2).f5,(rd_T26 t317 x10_2).f6⟩ : S26)]):=⟨_,rfl⟩
           replace H : (laws_FnTurnOrder.l0 k2 t317 t318 y347 (wrap64 (x10_2 - 1)))=some r:=by first|(rw [hy347];with_reducible exact H)|(have H2_:=(Option.bind_some _ _).symm.trans H;rw [hy347];with_reducible exact H2_)|(have H2_:=(Option.bind_some _ _).symm.trans H;with_reducible exact H2_)|with_reducible exact H|(rw [hy347];exact H)|exact H
           have Ny347:=Aside0.mk hy347
           clear hy347
           have H':=Aside0.mk H
           clear H
           have p346 : 0 ≤ (x10_2 : Int):=of_decide_eq_true (by first|(with_reducible assumption)|assumption)
           have q346 : x10_2 < (t317.length : Int):=of_decide_eq_true (by first|(with_reducible assumption)|assumption)
           obtain ⟨ad346,A346_3,c346_3,A346_4,c346_4,e346,hx346_0,hx346_1,hx346_2,hx346_3,hx346_4,hx346_5,hx346_6,hl346_3,hi346_3,hl346_4,hi346_4⟩:=at_T26 (Kd.N_reads' HO_3.out).2.2 x10_2 p346 q346
           cases e346
           obtain ⟨ce346,hce346,hMe346,hcc346⟩:=Kd.N_get HO_3.out z26 x10_2 p346 (by first|exact q346|exact of_decide_eq_true (by first|(with_reducible assumption)|assumption)|(have e_:=(Kd.N_reads' HO_3.out).1;omega))
           obtain ⟨ua346_3,uc346_3,ua346_4,uc346_4,rfl,ul346_3,ge346_3,ul346_4,ge346_4⟩:=k26_openF hMe346
           have hv346_3:=hcc346 3 _ rfl
           rw [add_field _ _ 3 (by omega)] at hv346_3
           replace hv346_3:=Option.some.inj (hv346_3.symm.trans hx346_3)
           injection hv346_3 with hva_ hvn_ hvc_
           rw [hva_] at ge346_3
           rw [hvc_] at ul346_3
           have HL346_3:=Aside0.mk (show Kd.V (Kd.int .i64) 3 _ w.heap.size _ _ ((rd_T26 t317 x10_2).f3) from Kd.V_mk ul346_3 ge346_3)
           clear hva_ hvn_ hvc_ ge346_3 ul346_3
           have hv346_4:=hcc346 4 _ rfl
           rw [add_field _ _ 4 (by omega)] at hv346_4
           replace hv346_4:=Option.some.inj (hv346_4.symm.trans hx346_4)
           injection hv346_4 with hva_ hvn_ hvc_
           rw [hva_] at ge346_4
           rw [hvc_] at ul346_4
           have HL346_4:=Aside0.mk (show Kd.V (Kd.int .i64) 3 _ w.heap.size _ _ ((rd_T26 t317 x10_2).f4) from Kd.V_mk ul346_4 ge346_4)
           clear hva_ hvn_ hvc_ ge346_4 ul346_4
           clear hcc346 hce346
           have HR346_3:=Aside0.mk hi346_3
           have HC346_3:=Aside0.mk hl346_3
           clear hi346_3 hl346_3
           have HR346_4:=Aside0.mk hi346_4
           have HC346_4:=Aside0.mk hl346_4
           clear hi346_4 hl346_4
           replace p346:=eq_true p346
           replace q346:=eq_true q346
           go_wp2_with (first|((with_reducible refine gate_builtin (b:=.append) (xs:=#[.tmp 67,.tmp 72]) rfl ?_);(try (refine gate_guard (by rfl) ?_;dsimp only));at_builtin;refine Kd.N_append k26 (w0:=w) w.heap.size rfl (.tmp 67) (.tmp 72) 42 26 (.agg #[(.int .i64 0),(.bool false),(.int .i64 0),(.slice none 0 0),(.slice none 0 0),(.bool false),(.bool false)]) 80 rfl Try.underlying42 info26 rfl (by decide) (by omega) u9 x9_2 (⟨(rd_T26 t317 x10_2).f0,(rd_T26 t317 x10_2).f1,(rd_T26 t317 x10_2).f2,(rd_T26 t317 x10_2).f3,(rd_T26 t317 x10_2).f4,(rd_T26 t317 x10_2).f5,(rd_T26 t317 x10_2).f6⟩ : S26) [.int .i64 ((rd_T26 t317 x10_2).f0),.bool ((rd_T26 t317 x10_2).f1),.int .i64 ((rd_T26 t317 x10_2).f2),.slice A346_3 ((rd_T26 t317 x10_2).f3).length c346_3,.slice A346_4 ((rd_T26 t317 x10_2).f4).length c346_4,.bool ((rd_T26 t317 x10_2).f5),.bool ((rd_T26 t317 x10_2).f6)] (fun k_=>some k_ ≠ (.slice (some ad346) t317.length co8 : Value).ownBlock∧some k_ ≠ (.slice Ao12 t326.length co12 : Value).ownBlock∧some k_ ≠ (.slice Ao17 t336.length co17 : Value).ownBlock∧k_ ≠ gb330∧k_ ≠ gb340) (fun k_=>((fun k_=>some k_ ≠ (.slice (some ad346) t317.length co8 : Value).ownBlock∧some k_ ≠ (.slice Ao12 t326.length co12 : Value).ownBlock∧some k_ ≠ (.slice Ao17 t336.length co17 : Value).ownBlock∧k_ ≠ gb330∧k_ ≠ gb340)) k_∧some k_ ≠ (u9 : Value).ownBlock) rfl rfl ?aP (fun _ hk=>hk) ?aF ?aO ?aB ?aS ?aL ?_;(case aP=>exact (k26_mkF _ _ (⟨(rd_T26 t317 x10_2).f0,(rd_T26 t317 x10_2).f1,(rd_T26 t317 x10_2).f2,(rd_T26 t317 x10_2).f3,(rd_T26 t317 x10_2).f4,(rd_T26 t317 x10_2).f5,(rd_T26 t317 x10_2).f6⟩ : S26) (Kd.V_reads' (Kd.V_mono (ok':=(fun k_=>((fun k_=>some k_ ≠ (.slice (some ad346) t317.length co8 : Value).ownBlock∧some k_ ≠ (.slice Ao12 t326.length co12 : Value).ownBlock∧some k_ ≠ (.slice Ao17 t336.length co17 : Value).ownBlock∧k_ ≠ gb330∧k_ ≠ gb340)) k_∧some k_ ≠ (u9 : Value).ownBlock)) (HL346_3.out) (fun k_ hk=>⟨⟨hk.2,⟨hk.1.2.1,⟨hk.1.2.2.1,⟨hk.1.2.2.2.1,hk.1.2.2.2.2⟩⟩⟩⟩,hk.1.1⟩))).2.1 (Kd.V_F (Kd.V_mono (ok':=(fun k_=>((fun k_=>some k_ ≠ (.slice (some ad346) t317.length co8 : Value).ownBlock∧some k_ ≠ (.slice Ao12 t326.length co12 : Value).ownBlock∧some k_ ≠ (.slice Ao17 t336.length co17 : Value).ownBlock∧k_ ≠ gb330∧k_ ≠ gb340)) k_∧some k_ ≠ (u9 : Value).ownBlock)) (HL346_3.out) (fun k_ hk=>⟨⟨hk.2,⟨hk.1.2.1,⟨hk.1.2.2.1,⟨hk.1.2.2.2.1,hk.1.2.2.2.2⟩⟩⟩⟩,hk.1.1⟩))) (Kd.V_reads' (Kd.V_mono (ok':=(fun k_=>((fun k_=>some k_ ≠ (.slice (some ad346) t317.length co8 : Value).ownBlock∧some k_ ≠ (.slice Ao12 t326.length co12 : Value).ownBlock∧some k_ ≠ (.slice Ao17 t336.length co17 : Value).ownBlock∧k_ ≠ gb330∧k_ ≠ gb340)) k_∧some k_ ≠ (u9 : Value).ownBlock)) (HL346_4.out) (fun k_ hk=>⟨⟨hk.2,⟨hk.1.2.1,⟨hk.1.2.2.1,⟨hk.1.2.2.2.1,hk.1.2.2.2.2⟩⟩⟩⟩,hk.1.1⟩))).2.1 (Kd.V_F (Kd.V_mono (ok':=(fun k_=>((fun k_=>some k_ ≠ (.slice (some ad346) t317.length co8 : Value).ownBlock∧some k_ ≠ (.slice Ao12 t326.length co12 : Value).ownBlock∧some k_ ≠ (.slice Ao17 t336.length co17 : Value).ownBlock∧k_ ≠ gb330∧k_ ≠ gb340)) k_∧some k_ ≠ (u9 : Value).ownBlock)) (HL346_4.out) (fun k_ hk=>⟨⟨hk.2,⟨hk.1.2.1,⟨hk.1.2.2.1,⟨hk.1.2.2.2.1,hk.1.2.2.2.2⟩⟩⟩⟩,hk.1.1⟩)))));(case aB=>exact (by repeat (first|(with_reducible first|exact HB.out|apply below_alloc|apply pw_below_drewN|apply below_drew1|refine below_set ?_ GE330.out|refine below_set ?_ GE340.out)|exact HB.out)));(case aF=>exact (fun k_ hk=>⟨Kd.fresh' (Kd.N_lt (by (with_reducible repeat (first|apply Kd.N_alloc|apply Kd.N_drewN|apply Kd.N_drew));exact HO_3.out)) k_ hk,Kd.fresh' (Kd.N_lt (by (with_reducible repeat (first|apply Kd.N_alloc|apply Kd.N_drewN|apply Kd.N_drew));exact HO_331005.out)) k_ hk,Kd.fresh' (Kd.N_lt (by (with_reducible repeat (first|apply Kd.N_alloc|apply Kd.N_drewN|apply Kd.N_drew));exact HO_341005.out)) k_ hk,Kd.freshB (g:=gb330) (o:=.cells #[.bool t321,.bool t322,.int .i64 t323,.int .i64 t324,.int .i64 t325,.slice Ao12 t326.length co12] 39 (0,0)) (by (with_reducible repeat (first|refine blk_drewN ?_ _|refine blk_drew ?_|refine blk_alloc ?_ _));exact BK330.out) k_ hk,Kd.freshB (g:=gb340) (o:=.cells #[.bool t331,.bool t332,.int .i64 t333,.int .i64 t334,.int .i64 t335,.slice Ao17 t336.length co17] 39 (0,0)) (by (with_reducible repeat (first|refine blk_drewN ?_ _|refine blk_drew ?_|refine blk_alloc ?_ _));exact BK340.out) k_ hk⟩));(case aO=>exact (by (with_reducible repeat (first|apply Kd.N_alloc|apply Kd.N_drewN|apply Kd.N_drew));exact HO_9.out));(case aS=>exact (below_size (by repeat (first|(with_reducible first|exact HB.out|apply below_alloc|apply pw_below_drewN|apply below_drew1|refine below_set ?_ GE330.out|refine below_set ?_ GE340.out)|exact HB.out))));(case aL=>have:=LMc46.out;omega);intro v348 w47 ho hb hg hat;rw [← Ny347.out] at ho;have n0_:=Aside0.mk (Kd.N_afterv (ok:=(fun k_=>some k_ ≠ (.slice Ao12 t326.length co12 : Value).ownBlock∧some k_ ≠ (.slice Ao17 t336.length co17 : Value).ownBlock∧k_ ≠ gb330∧k_ ≠ gb340)) (by (with_reducible repeat (first|apply Kd.N_alloc|apply Kd.N_drewN|apply Kd.N_drew));exact Kd.N_mono HO_3.out (fun _ hk=>⟨⟨hk.2.1,⟨hk.2.2.1,⟨hk.2.2.2.1,hk.2.2.2.2⟩⟩⟩,hk.1⟩)) hg hat);have n1_:=Aside0.mk (Kd.N_afterv (ok:=(fun k_=>some k_ ≠ (.slice (some ad346) t317.length co8 : Value).ownBlock∧some k_ ≠ (.slice Ao17 t336.length co17 : Value).ownBlock∧k_ ≠ gb330∧k_ ≠ gb340)) (by (with_reducible repeat (first|apply Kd.N_alloc|apply Kd.N_drewN|apply Kd.N_drew));exact Kd.N_mono HO_331005.out (fun _ hk=>⟨⟨hk.1,⟨hk.2.2.1,⟨hk.2.2.2.1,hk.2.2.2.2⟩⟩⟩,hk.2.1⟩)) hg hat);have n2_:=Aside0.mk (Kd.N_afterv (ok:=(fun k_=>some k_ ≠ (.slice (some ad346) t317.length co8 : Value).ownBlock∧some k_ ≠ (.slice Ao12 t326.length co12 : Value).ownBlock∧k_ ≠ gb330∧k_ ≠ gb340)) (by (with_reducible repeat (first|apply Kd.N_alloc|apply Kd.N_drewN|apply Kd.N_drew));exact Kd.N_mono HO_341005.out (fun _ hk=>⟨⟨hk.1,⟨hk.2.2.1,⟨hk.2.2.2.1,hk.2.2.2.2⟩⟩⟩,hk.2.1⟩)) hg hat);have n3_:=Aside0.mk (blk_grown (g:=gb330) (o:=.cells #[.bool t321,.bool t322,.int .i64 t323,.int .i64 t324,.int .i64 t325,.slice Ao12 t326.length co12] 39 (0,0)) (by (with_reducible repeat (first|refine blk_drewN ?_ _|refine blk_drew ?_|refine blk_alloc ?_ _));exact BK330.out) hg (Kd.N_ne HO_9.out BK330.out (by decide)));have n4_:=Aside0.mk (blk_grown (g:=gb340) (o:=.cells #[.bool t331,.bool t332,.int .i64 t333,.int .i64 t334,.int .i64 t335,.slice Ao17 t336.length co17] 39 (0,0)) (by (with_reducible repeat (first|refine blk_drewN ?_ _|refine blk_drew ?_|refine blk_alloc ?_ _));exact BK340.out) hg (Kd.N_ne HO_9.out BK340.out (by decide)));have n5_:=Aside0.mk (Kd.V_afterv (ok:=(fun k_=>some k_ ≠ (.slice (some ad346) t317.length co8 : Value).ownBlock∧some k_ ≠ (.slice Ao12 t326.length co12 : Value).ownBlock∧some k_ ≠ (.slice Ao17 t336.length co17 : Value).ownBlock∧k_ ≠ gb330∧k_ ≠ gb340)) (by (with_reducible repeat (first|apply Kd.V_alloc|apply Kd.V_drewN|apply Kd.V_drew));exact Kd.V_mono HL346_3.out (fun _ hk=>⟨⟨hk.2,⟨hk.1.2.1,⟨hk.1.2.2.1,⟨hk.1.2.2.2.1,hk.1.2.2.2.2⟩⟩⟩⟩,hk.1.1⟩)) hg hat);have n6_:=Aside0.mk (Kd.V_afterv (ok:=(fun k_=>some k_ ≠ (.slice (some ad346) t317.length co8 : Value).ownBlock∧some k_ ≠ (.slice Ao12 t326.length co12 : Value).ownBlock∧some k_ ≠ (.slice Ao17 t336.length co17 : Value).ownBlock∧k_ ≠ gb330∧k_ ≠ gb340)) (by (with_reducible repeat (first|apply Kd.V_alloc|apply Kd.V_drewN|apply Kd.V_drew));exact Kd.V_mono HL346_4.out (fun _ hk=>⟨⟨hk.2,⟨hk.1.2.1,⟨hk.1.2.2.1,⟨hk.1.2.2.2.1,hk.1.2.2.2.2⟩⟩⟩⟩,hk.1.1⟩)) hg hat);have n7_:=Aside0.mk (hb);have n8_:=Aside0.mk (ho);clear HO_3;clear HO_331005;clear HO_341005;clear BK330;clear BK340;clear HL346_3;clear HL346_4;clear HB;clear HO_9;have HO_3:=n0_;have HO_331005:=n1_;have HO_341005:=n2_;have BK330:=n3_;have BK340:=n4_;have HL346_3:=n5_;have HL346_4:=n6_;have HB:=n7_;have HO349:=n8_;clear n0_ n1_ n2_ n3_ n4_ n5_ n6_ n7_ n8_;clear ho hb hg hat))
           go_roundg k2
           case measure=>have:=HJ5.out;have:=HK2.out;omega
           case rel=>exact ⟨(y347),(wrap64 (x10_2 - 1)),(by first|rfl|(simp;done)|(simp [*];done)),H',⟨by have:=HJ5.out;have:=HK2.out;omega⟩,⟨by (with_reducible repeat (first|apply Kd.N_alloc|apply Kd.N_drewN|apply Kd.N_drew));exact Kd.N_mono HO_3.out (fun _ hk=>⟨hk.2,⟨hk.1.1,⟨hk.1.2.1,⟨hk.1.2.2.1,hk.1.2.2.2⟩⟩⟩⟩)⟩,⟨by (with_reducible repeat (first|apply Kd.N_alloc|apply Kd.N_drewN|apply Kd.N_drew));exact HO349.out⟩,⟨by (with_reducible repeat (first|apply Kd.N_alloc|apply Kd.N_drewN|apply Kd.N_drew));exact Kd.N_mono HO_331005.out (fun _ hk=>⟨hk.1.1,⟨hk.2,⟨hk.1.2.1,⟨hk.1.2.2.1,hk.1.2.2.2⟩⟩⟩⟩)⟩,⟨by (with_reducible repeat (first|apply Kd.N_alloc|apply Kd.N_drewN|apply Kd.N_drew));exact Kd.N_mono HO_341005.out (fun _ hk=>⟨hk.1.1,⟨hk.2,⟨hk.1.2.1,⟨hk.1.2.2.1,hk.1.2.2.2⟩⟩⟩⟩)⟩,⟨by (with_reducible repeat (first|refine blk_drewN ?_ _|refine blk_drew ?_|refine blk_alloc ?_ _));exact BK330.out⟩,⟨by (with_reducible repeat (first|refine blk_drewN ?_ _|refine blk_drew ?_|refine blk_alloc ?_ _));exact BK340.out⟩,⟨by repeat (first|(with_reducible first|exact HB.out|apply below_alloc|apply pw_below_drewN|apply below_drew1|refine below_set ?_ GE330.out|refine below_set ?_ GE340.out)|exact HB.out)⟩⟩
          ·rw [if_neg c46] at H
           exact absurd H (by simp)
         ·rw [if_neg c45] at H
          exact absurd H (by simp)
        ·rw [if_neg c44] at H
         exact absurd H (by simp)
       ·rw [if_neg c43] at H
        have c43b0 : decide (0 ≤ x10_2)=false:=decide_eq_false c43
        clear c43
        replace H:=Option.bind_eq_some_iff.mp H
        obtain ⟨⟨t350,t351,t352,t353,t354,t355,t358⟩,A480,H⟩:=H
        replace H : (some (!t358))=some r:=H
        have A48:=Aside0.mk A480
        clear A480
        obtain rfl:=Option.some.inj H
        obtain ⟨Ao49,co49,eo49⟩:=Kd.N_slice HO_9.out
        subst eo49
        go_wp2_with (first|((with_reducible refine gate_callee (f:=25) rfl ?_);refine goesL_ (some 77) rfl rfl Try.func25 (by kernel_rfl) rfl #[.slice Ao49 x9_2.length co49,.bool t318] rfl (by (try simp only [List.map_toArray,List.map_cons,List.map_nil]);first|done|rfl|(simp only [List.length_drop,List.length_take];rfl)) ?_;(with_reducible refine (impl_OldTurn.calls k2 _ _ x9_2 t318 t350 t351 t352 t353 t354 t355 t358 _ ?side1 ?side2 A48.out).mono ?_);(case side1=>repeat (first|exact (Kd.N_reads' HO_9.out).2.2|(with_reducible refine Kd.C_alloc ?_ _)|(with_reducible refine Kd.C_drewN ?_ _)|(with_reducible refine Kd.C_drew ?_)));(case side2=>exact (Kd.N_reads' HO_9.out).2.1);rintro e w50 ⟨v356,rfl,ho0,hb⟩;refine ⟨_,rfl,?_⟩;have n0_:=Aside0.mk (Kd.N_elder' (by (with_reducible repeat (first|apply Kd.N_alloc|apply Kd.N_drewN|apply Kd.N_drew));exact HO_3.out) (by first|exact Kd.N_base ho0|exact Kd.N_base (Kd.S_N (Kd.S_bound ho0))) hb);have n1_:=Aside0.mk (Kd.N_elder' (by (with_reducible repeat (first|apply Kd.N_alloc|apply Kd.N_drewN|apply Kd.N_drew));exact HO_9.out) (by first|exact Kd.N_base ho0|exact Kd.N_base (Kd.S_N (Kd.S_bound ho0))) hb);have n2_:=Aside0.mk (Kd.N_elder' (by (with_reducible repeat (first|apply Kd.N_alloc|apply Kd.N_drewN|apply Kd.N_drew));exact HO_331005.out) (by first|exact Kd.N_base ho0|exact Kd.N_base (Kd.S_N (Kd.S_bound ho0))) hb);have n3_:=Aside0.mk (Kd.N_elder' (by (with_reducible repeat (first|apply Kd.N_alloc|apply Kd.N_drewN|apply Kd.N_drew));exact HO_341005.out) (by first|exact Kd.N_base ho0|exact Kd.N_base (Kd.S_N (Kd.S_bound ho0))) hb);have n4_:=Aside0.mk (Kd.N_lower (Kd.N_mono (ok':=fun k_=>some k_ ≠ (.slice Ao8 t317.length co8 : Value).ownBlock∧some k_ ≠ (.slice Ao49 x9_2.length co49 : Value).ownBlock∧some k_ ≠ (.slice Ao12 t326.length co12 : Value).ownBlock∧some k_ ≠ (.slice Ao17 t336.length co17 : Value).ownBlock∧k_ ≠ gb330∧k_ ≠ gb340) (Kd.S_N (Kd.S_bound ho0)) (fun k_ hk_=>⟨(Kd.fresh' (Kd.N_lt (by (with_reducible repeat (first|apply Kd.N_alloc|apply Kd.N_drewN|apply Kd.N_drew));exact HO_3.out)) k_ hk_.2.1),(Kd.fresh' (Kd.N_lt (by (with_reducible repeat (first|apply Kd.N_alloc|apply Kd.N_drewN|apply Kd.N_drew));exact HO_9.out)) k_ hk_.2.1),(Kd.fresh' (Kd.N_lt (by (with_reducible repeat (first|apply Kd.N_alloc|apply Kd.N_drewN|apply Kd.N_drew));exact HO_331005.out)) k_ hk_.2.1),(Kd.fresh' (Kd.N_lt (by (with_reducible repeat (first|apply Kd.N_alloc|apply Kd.N_drewN|apply Kd.N_drew));exact HO_341005.out)) k_ hk_.2.1),(Kd.freshB (g:=gb330) (o:=.cells #[.bool t321,.bool t322,.int .i64 t323,.int .i64 t324,.int .i64 t325,.slice Ao12 t326.length co12] 39 (0,0)) (by (with_reducible repeat (first|refine blk_drewN ?_ _|refine blk_drew ?_|refine blk_alloc ?_ _));exact BK330.out) k_ hk_.2.1),(Kd.freshB (g:=gb340) (o:=.cells #[.bool t331,.bool t332,.int .i64 t333,.int .i64 t334,.int .i64 t335,.slice Ao17 t336.length co17] 39 (0,0)) (by (with_reducible repeat (first|refine blk_drewN ?_ _|refine blk_drew ?_|refine blk_alloc ?_ _));exact BK340.out) k_ hk_.2.1)⟩)) (below_size (by repeat (first|(with_reducible first|exact HB.out|apply below_alloc|apply pw_below_drewN|apply below_drew1|refine below_set ?_ GE330.out|refine below_set ?_ GE340.out)|exact HB.out))));have n5_:=Aside0.mk (blk_below (g:=gb330) (o:=.cells #[.bool t321,.bool t322,.int .i64 t323,.int .i64 t324,.int .i64 t325,.slice Ao12 t326.length co12] 39 (0,0)) (by (with_reducible repeat (first|refine blk_drewN ?_ _|refine blk_drew ?_|refine blk_alloc ?_ _));exact BK330.out) hb);have n6_:=Aside0.mk (blk_below (g:=gb340) (o:=.cells #[.bool t331,.bool t332,.int .i64 t333,.int .i64 t334,.int .i64 t335,.slice Ao17 t336.length co17] 39 (0,0)) (by (with_reducible repeat (first|refine blk_drewN ?_ _|refine blk_drew ?_|refine blk_alloc ?_ _));exact BK340.out) hb);have n7_:=Aside0.mk (below_step (by repeat (first|(with_reducible first|exact HB.out|apply below_alloc|apply pw_below_drewN|apply below_drew1|refine below_set ?_ GE330.out|refine below_set ?_ GE340.out)|exact HB.out)) hb);clear HO_3;clear HO_9;clear HO_331005;clear HO_341005;clear BK330;clear BK340;clear HB;have HO_3:=n0_;have HO_9:=n1_;have HO_331005:=n2_;have HO_341005:=n3_;have HO357:=n4_;have BK330:=n5_;have BK340:=n6_;have HB:=n7_;clear n0_ n1_ n2_ n3_ n4_ n5_ n6_ n7_;(try clear hb);(try clear hb2);(try clear hk);(try clear hi);(try clear ho0))|((with_reducible refine gate_dst (N:=11) rfl ?_);(try (refine gate_guard (by rfl) ?_;dsimp only));refine box_event ?hg (N:=11) ?hd (cs:=#[.bool false,.bool false,.int .i64 0,.int .i64 0,.int .i64 0,.slice none 0 0]) (t:=39) ?hr ?_;(case hd=>rfl);(case hg=>rfl);(case hr=>first|(go_simp;done)|(go_simp;rfl));intro gb359 hg w51 hbox hb;have n0_:=Aside0.mk (Kd.N_below (Kd.N_elderB (by (with_reducible repeat (first|apply Kd.N_alloc|apply Kd.N_drewN|apply Kd.N_drew));exact HO_3.out) gb359 (Nat.le_of_eq hg.symm)) hb);have n1_:=Aside0.mk (Kd.N_below (Kd.N_elderB (by (with_reducible repeat (first|apply Kd.N_alloc|apply Kd.N_drewN|apply Kd.N_drew));exact HO_9.out) gb359 (Nat.le_of_eq hg.symm)) hb);have n2_:=Aside0.mk (Kd.N_below (Kd.N_elderB (by (with_reducible repeat (first|apply Kd.N_alloc|apply Kd.N_drewN|apply Kd.N_drew));exact HO_331005.out) gb359 (Nat.le_of_eq hg.symm)) hb);have n3_:=Aside0.mk (Kd.N_below (Kd.N_elderB (by (with_reducible repeat (first|apply Kd.N_alloc|apply Kd.N_drewN|apply Kd.N_drew));exact HO_341005.out) gb359 (Nat.le_of_eq hg.symm)) hb);have n4_:=Aside0.mk (Kd.N_below (Kd.N_elderB (by (with_reducible repeat (first|apply Kd.N_alloc|apply Kd.N_drewN|apply Kd.N_drew));exact HO357.out) gb359 (Nat.le_of_eq hg.symm)) hb);have n5_:=Aside0.mk (blk_below (g:=gb330) (o:=.cells #[.bool t321,.bool t322,.int .i64 t323,.int .i64 t324,.int .i64 t325,.slice Ao12 t326.length co12] 39 (0,0)) (by (with_reducible repeat (first|refine blk_drewN ?_ _|refine blk_drew ?_|refine blk_alloc ?_ _));exact BK330.out) hb);have n6_:=Aside0.mk (blk_below (g:=gb340) (o:=.cells #[.bool t331,.bool t332,.int .i64 t333,.int .i64 t334,.int .i64 t335,.slice Ao17 t336.length co17] 39 (0,0)) (by (with_reducible repeat (first|refine blk_drewN ?_ _|refine blk_drew ?_|refine blk_alloc ?_ _));exact BK340.out) hb);have n7_:=Aside0.mk (below_step (by repeat (first|(with_reducible first|exact HB.out|apply below_alloc|apply pw_below_drewN|apply below_drew1|refine below_set ?_ GE330.out|refine below_set ?_ GE340.out)|exact HB.out)) hb);have n8_:=Aside0.mk (hbox);have n9_:=Aside0.mk ((by rw [hg];exact (below_size (by repeat (first|(with_reducible first|exact HB.out|apply below_alloc|apply pw_below_drewN|apply below_drew1|refine below_set ?_ GE330.out|refine below_set ?_ GE340.out)|exact HB.out))) : w.heap.size ≤ gb359));have n10_:=Aside0.mk ((by rw [hg];exact (below_size (by repeat (first|(with_reducible first|exact HB.out|apply below_alloc|apply pw_below_drewN|apply below_drew1|refine below_set ?_ GE330.out|refine below_set ?_ GE340.out)|exact HB.out))) : w.heap.size ≤ gb359));have n11_:=Aside0.mk ((by rw [hg];exact Nat.ne_of_lt (blk_lt (g:=gb330) (o:=.cells #[.bool t321,.bool t322,.int .i64 t323,.int .i64 t324,.int .i64 t325,.slice Ao12 t326.length co12] 39 (0,0)) (by (with_reducible repeat (first|refine blk_drewN ?_ _|refine blk_drew ?_|refine blk_alloc ?_ _));exact BK330.out)) : gb330 ≠ gb359));have n12_:=Aside0.mk ((by rw [hg];exact Nat.ne_of_gt (blk_lt (g:=gb330) (o:=.cells #[.bool t321,.bool t322,.int .i64 t323,.int .i64 t324,.int .i64 t325,.slice Ao12 t326.length co12] 39 (0,0)) (by (with_reducible repeat (first|refine blk_drewN ?_ _|refine blk_drew ?_|refine blk_alloc ?_ _));exact BK330.out)) : gb359 ≠ gb330));have n13_:=Aside0.mk ((by rw [hg];exact Nat.ne_of_lt (blk_lt (g:=gb340) (o:=.cells #[.bool t331,.bool t332,.int .i64 t333,.int .i64 t334,.int .i64 t335,.slice Ao17 t336.length co17] 39 (0,0)) (by (with_reducible repeat (first|refine blk_drewN ?_ _|refine blk_drew ?_|refine blk_alloc ?_ _));exact BK340.out)) : gb340 ≠ gb359));have n14_:=Aside0.mk ((by rw [hg];exact Nat.ne_of_gt (blk_lt (g:=gb340) (o:=.cells #[.bool t331,.bool t332,.int .i64 t333,.int .i64 t334,.int .i64 t335,.slice Ao17 t336.length co17] 39 (0,0)) (by (with_reducible repeat (first|refine blk_drewN ?_ _|refine blk_drew ?_|refine blk_alloc ?_ _));exact BK340.out)) : gb359 ≠ gb340));clear HO_3;clear HO_9;clear HO_331005;clear HO_341005;clear HO357;clear BK330;clear BK340;clear HB;have HO_3:=n0_;have HO_9:=n1_;have HO_331005:=n2_;have HO_341005:=n3_;have HO357:=n4_;have BK330:=n5_;have BK340:=n6_;have HB:=n7_;have BK359:=n8_;have GW359:=n9_;have GE359:=n10_;have NB330_359:=n11_;have NB359_330:=n12_;have NB340_359:=n13_;have NB359_340:=n14_;clear n0_ n1_ n2_ n3_ n4_ n5_ n6_ n7_ n8_ n9_ n10_ n11_ n12_ n13_ n14_;clear hb hbox hg;have hnb52:=NB359_330.out;have hnc52:=NB330_359.out;have hnb53:=NB359_340.out;have hnc53:=NB340_359.out;have hcz54_0 : w51.cell? ⟨gb359,0,none⟩ = some (.bool false):=(blk_cell BK359.out 0).trans rfl;have hcz54_1 : w51.cell? ⟨gb359,1,none⟩ = some (.bool false):=(blk_cell BK359.out 1).trans rfl;have hcz54_2 : w51.cell? ⟨gb359,2,none⟩ = some (.int .i64 0):=(blk_cell BK359.out 2).trans rfl;have hcz54_3 : w51.cell? ⟨gb359,3,none⟩ = some (.int .i64 0):=(blk_cell BK359.out 3).trans rfl;have hcz54_4 : w51.cell? ⟨gb359,4,none⟩ = some (.int .i64 0):=(blk_cell BK359.out 4).trans rfl;have hcz54_5 : w51.cell? ⟨gb359,5,none⟩ = some (.slice none 0 0):=(blk_cell BK359.out 5).trans rfl;have hfz54_0:=blk_frozen BK359.out 0;have hfz54_1:=blk_frozen BK359.out 1;have hfz54_2:=blk_frozen BK359.out 2;have hfz54_3:=blk_frozen BK359.out 3;have hfz54_4:=blk_frozen BK359.out 4;have hfz54_5:=blk_frozen BK359.out 5;obtain ⟨Ao55,co55,eo55⟩:=Kd.N_slice HO357.out;subst eo55))
        go_ret
        exact ⟨by first|rfl|(simp [errW_none,errW_some] <;> rfl)|(simp [*,errW_none,errW_some] <;> rfl),by repeat (first|(with_reducible first|exact HB.out|apply below_alloc|apply pw_below_drewN|apply below_drew1|refine below_set ?_ GE330.out|refine below_set ?_ GE340.out|refine below_set ?_ GE359.out)|exact HB.out)⟩

/-- THE ONE PURE STATEMENT of laws_FnTurnOrder: yours. -/
def laws_FnTurnOrder.Pure : Prop:=∀ (l0 : List Int),l0.length ≤ maxLen→l0.length * 1 ≤ 140737488351232→(∀ x ∈ l0,(Lit.int .u8 x).wf=true)→∃ k,laws_FnTurnOrder.f k l0=some true
theorem laws_FnTurnOrder.walk (P : laws_FnTurnOrder.Pure) (a0 : Option Addr) (len0 cap0 : Nat) (z0 : List Int) (w : World) (w0 : (a0=none∧len0=0∧cap0=0∧z0 = []) ∨ ∃ x,a0=some x∧len0 ≤ cap0∧cap0 ≤ maxLen∧z0.length=cap0∧(∀ i,i < z0.length→w.cell? (x.add i)=some (.int .u8 (z0.getD i 0)))∧∀ n ∈ z0,(Lit.int .u8 n).wf=true) (y0 : len0 * 1 ≤ 140737488351232) :
  Calls Try.prog 9 #[.slice a0 len0 cap0] w fun e w'=>e = .returned (.bool true)∧Below w.heap.size w w':=by
 obtain ⟨l0,rfl,hr0,hm0,hw0,hc0⟩:=ReadsInt.ofRowC w0
 obtain ⟨k,h⟩:=P l0 hm0 y0 hw0
 refine (laws_FnTurnOrder.calls k _ _ l0 true w (Kd.C_of_reads (d:=(0 : Int)) (h1:=fun _=>rfl) hr0) hc0 h).mono ?_
 rintro e w' ⟨rfl,hd⟩
 exact ⟨rfl,hd⟩

end Go.Proofs.Ytmpnedpokdaejaa.QFnTurnOrder
