-- Written by this session's program wip/ownprint.py.
import Derived.Test.YtmpnedpokdaejaaQFnExactOldTurnx0
import Derived.Test.YtmpnedpokdaejaaQFnExactOldTurnx10
namespace Go.Proofs.Ytmpnedpokdaejaa.QFnExactOldTurn
open Go.RowKit Go.Proofs.YtmpnedpokdaejaaW.PrintWords Go.Proofs.YtmpnedpokdaejaaW.PrintLast Go.Proofs.YtmpnedpokdaejaaW.PrintMore
attribute [local go_sem] max2_int min2_int max_two min_two max_three min_three max_four min_four   -- for this text's walks alone
set_option linter.unusedVariables false
set_option linter.unusedSimpArgs false

/-! ### laws_heldRecordS: function 66 -/
def laws_heldRecordS.l0 : Nat→List (S57)→Int→Int→Option (Int)
 | 0,_,_,_=>none
 | k + 1,x0,x1,x5=>if x5 < (x0.length : Int) then (if 0 ≤ x5 then (if ((rd_T57 x0 x5).f0)=x1 then (if ((rd_T57 x0 x5).f1)=(wrap64 (x1 + 1)) then (if (((rd_T57 x0 x5).f2) != ((Int.tmod (wrap64 ((wrap64 (x1 + 1)) + 1)) 3) == 0))=true then (some (-1)) else ((laws_heldIntS.f k ((rd_T57 x0 x5).f3) (wrap64 ((wrap64 ((wrap64 (x1 + 1)) + 1)) + 1))).bind fun t272=>(if t272 < 0 then (some (-1)) else (if (((rd_T57 x0 x5).f4) != ((Int.tmod t272 3) == 0))=true then (some (-1)) else ((laws_heldIntS.f k ((rd_T57 x0 x5).f5) (wrap64 (t272 + 1))).bind fun t275=>(if t275 < 0 then (some (-1)) else (laws_heldRecordS.l0 k x0 t275 (wrap64 (x5 + 1))))))))) else (some (-1))) else (some (-1))) else (none)) else (some x1)
def laws_heldRecordS.f (k : Nat) (l0 : List (S57)) (a1 : Int) : Option (Int):=laws_heldRecordS.l0 k l0 a1 0
theorem laws_heldRecordS.mono_l : ∀ k,(∀ y0 y1 y2,LeO (laws_heldRecordS.l0 k y0 y1 y2) (laws_heldRecordS.l0 (k + 1) y0 y1 y2))
 | 0=>fun _ _ _ r h=>by simp [laws_heldRecordS.l0] at h
 | k + 1=>by
  have ih0:=laws_heldRecordS.mono_l k
  ·intro y0 y1 y2
   unfold laws_heldRecordS.l0
   repeat' first
   | (with_reducible exact ih0 _ _ _)
   | (with_reducible exact laws_heldIntS.mono _ _ _)
   | (with_reducible exact LeO.refl _)
   | (with_reducible exact LeO.none _)
   | (with_reducible refine LeO.ite ?_ ?_)
   | (with_reducible refine LeO.bind ?_ (fun _=>?_))
   | exact ih0 _ _ _
   | exact laws_heldIntS.mono _ _ _
   | exact LeO.none _
   | refine LeO.ite ?_ ?_
   | refine LeO.bind ?_ (fun _=>?_)
theorem laws_heldRecordS.mono : ∀ a0 a1 k,LeO (laws_heldRecordS.f k a0 a1) (laws_heldRecordS.f (k + 1) a0 a1):=by
 intro a0 a1 k
 have ih0:=laws_heldRecordS.mono_l k
 unfold laws_heldRecordS.f
 repeat' first
   | (with_reducible exact ih0 _ _ _)
   | (with_reducible exact laws_heldIntS.mono _ _ _)
   | (with_reducible exact LeO.refl _)
   | (with_reducible exact LeO.none _)
   | (with_reducible refine LeO.ite ?_ ?_)
   | (with_reducible refine LeO.bind ?_ (fun _=>?_))
   | exact ih0 _ _ _
   | exact laws_heldIntS.mono _ _ _
   | exact LeO.none _
   | refine LeO.ite ?_ ?_
   | refine LeO.bind ?_ (fun _=>?_)
set_option maxHeartbeats 8000000 in
set_option maxRecDepth 100000 in
theorem laws_heldRecordS.calls (k : Nat) (A0 : Option Addr) (c0 : Nat) (l0 : List (S57)) (a1 : Int) (r : Int) (w : World) (hr0 : Kd.C k57 w A0 l0.length l0) (hc0 : l0.length ≤ c0) (h : laws_heldRecordS.f k l0 a1=some r) :
  Calls Try.prog 66 #[.slice A0 l0.length c0,.int .i64 a1] w fun e w'=>e = .returned (.int .i64 r)∧Drawn0 w w':=by
 have HR0:=Aside0.mk hr0
 have HC0:=Aside0.mk hc0
 clear hr0 hc0
 have H : (laws_heldRecordS.l0 k l0 a1 0)=some r:=h
 clear h
 have H':=Aside0.mk H
 clear H
 go_enter Try.func66,Try.ntmps66
 go_wp2
 go_loopg [1,5] k (fun kq v1 v5 w'=>∃ (x1_1 : Int) (x5_1 : Int),v1 = .int .i64 x1_1∧v5 = .int .i64 x5_1∧Aside0 (laws_heldRecordS.l0 kq l0 x1_1 x5_1=some r)∧Aside0 (kq ≤ k)∧Drawn0 w w')
 case atStart=>exact ⟨(a1),(0),(by first|rfl|(simp;done)|(simp [*];done)),(by first|rfl|(simp;done)|(simp [*];done)),H',⟨Nat.le_refl _⟩,by repeat (first|exact Drawn0.refl _|apply Drawn0.step)⟩
 case round =>
  clear H'
  try clear p2
  obtain ⟨x1_1,x5_1,rfl,rfl,HA,HK1,⟨m1,rfl⟩⟩:=hrel
  cases gk with
  | zero=>exact absurd HA.out (by simp [laws_heldRecordS.l0])
  | succ k1 =>
   have H:=HA.out
   clear HA
   simp only [laws_heldRecordS.l0] at H
   by_cases c3 : x5_1 < (l0.length : Int)
   ·rw [if_pos c3] at H
    have c3b0 : decide (x5_1 < (l0.length : Int))=true:=decide_eq_true c3
    clear c3
    by_cases c4 : 0 ≤ x5_1
    ·rw [if_pos c4] at H
     have c4b0 : decide (0 ≤ x5_1)=true:=decide_eq_true c4
     clear c4
     by_cases c5 : ((rd_T57 l0 x5_1).f0)=x1_1
     ·rw [if_pos c5] at H
      have c5b0 : (((rd_T57 l0 x5_1).f0) == x1_1)=true:=beq_iff_eq.mpr c5
      have c5b1 : (((rd_T57 l0 x5_1).f0) != x1_1)=false:=bne_eq_false_iff_eq.mpr c5
      clear c5
      by_cases c6 : ((rd_T57 l0 x5_1).f1)=(wrap64 (x1_1 + 1))
      ·rw [if_pos c6] at H
       have c6b0 : (((rd_T57 l0 x5_1).f1) == (wrap64 (x1_1 + 1)))=true:=beq_iff_eq.mpr c6
       have c6b1 : (((rd_T57 l0 x5_1).f1) != (wrap64 (x1_1 + 1)))=false:=bne_eq_false_iff_eq.mpr c6
       clear c6
       by_cases c7 : (((rd_T57 l0 x5_1).f2) != ((Int.tmod (wrap64 ((wrap64 (x1_1 + 1)) + 1)) 3) == 0))=true
       ·rw [if_pos c7] at H
        have c7b0 : (((rd_T57 l0 x5_1).f2) != ((Int.tmod (wrap64 ((wrap64 (x1_1 + 1)) + 1)) 3) == 0))=true:=c7
        (try (have c7b1 : decide (((rd_T57 l0 x5_1).f2)=((Int.tmod (wrap64 ((wrap64 (x1_1 + 1)) + 1)) 3) == 0))=false:=by simpa using c7))
        (try (have c7b2 : (((rd_T57 l0 x5_1).f2) == ((Int.tmod (wrap64 ((wrap64 (x1_1 + 1)) + 1)) 3) == 0))=false:=by simpa using c7))
        (try (have c7b3 : ¬ (((rd_T57 l0 x5_1).f2)=((Int.tmod (wrap64 ((wrap64 (x1_1 + 1)) + 1)) 3) == 0)):=by simpa using c7))
        clear c7
        obtain rfl:=Option.some.inj H
        have p268 : 0 ≤ (x5_1 : Int):=of_decide_eq_true (by first|(with_reducible assumption)|assumption)
        have q268 : x5_1 < (l0.length : Int):=of_decide_eq_true (by first|(with_reducible assumption)|assumption)
        obtain ⟨ad268,A268_3,c268_3,A268_5,c268_5,e268,hx268_0,hx268_1,hx268_2,hx268_3,hx268_4,hx268_5,hl268_3,hi268_3,hl268_5,hi268_5⟩:=at_T57 HR0.out x5_1 p268 q268
        cases e268
        have HR268_3:=Aside0.mk hi268_3
        have HC268_3:=Aside0.mk hl268_3
        clear hi268_3 hl268_3
        have HR268_5:=Aside0.mk hi268_5
        have HC268_5:=Aside0.mk hl268_5
        clear hi268_5 hl268_5
        replace p268:=eq_true p268
        replace q268:=eq_true q268
        have p269 : 0 ≤ (x5_1 : Int):=of_decide_eq_true (by first|(with_reducible assumption)|assumption)
        have q269 : x5_1 < (l0.length : Int):=of_decide_eq_true (by first|(with_reducible assumption)|assumption)
        obtain ⟨ad269,A269_3,c269_3,A269_5,c269_5,e269,hx269_0,hx269_1,hx269_2,hx269_3,hx269_4,hx269_5,hl269_3,hi269_3,hl269_5,hi269_5⟩:=at_T57 HR0.out x5_1 p269 q269
        obtain rfl : ad268=ad269:=(by injection e269)
        have HR269_3:=Aside0.mk hi269_3
        have HC269_3:=Aside0.mk hl269_3
        clear hi269_3 hl269_3
        have HR269_5:=Aside0.mk hi269_5
        have HC269_5:=Aside0.mk hl269_5
        clear hi269_5 hl269_5
        replace p269:=eq_true p269
        replace q269:=eq_true q269
        have ea_:=Option.some.inj (hx268_3.symm.trans hx269_3)
        injection ea_ with ea_ en_ ec_
        subst ea_
        subst ec_
        clear en_
        have ea_:=Option.some.inj (hx268_5.symm.trans hx269_5)
        injection ea_ with ea_ en_ ec_
        subst ea_
        subst ec_
        clear en_
        have p270 : 0 ≤ (x5_1 : Int):=of_decide_eq_true (by first|(with_reducible assumption)|assumption)
        have q270 : x5_1 < (l0.length : Int):=of_decide_eq_true (by first|(with_reducible assumption)|assumption)
        obtain ⟨ad270,A270_3,c270_3,A270_5,c270_5,e270,hx270_0,hx270_1,hx270_2,hx270_3,hx270_4,hx270_5,hl270_3,hi270_3,hl270_5,hi270_5⟩:=at_T57 HR0.out x5_1 p270 q270
        obtain rfl : ad268=ad270:=(by injection e270)
        have HR270_3:=Aside0.mk hi270_3
        have HC270_3:=Aside0.mk hl270_3
        clear hi270_3 hl270_3
        have HR270_5:=Aside0.mk hi270_5
        have HC270_5:=Aside0.mk hl270_5
        clear hi270_5 hl270_5
        replace p270:=eq_true p270
        replace q270:=eq_true q270
        have ea_:=Option.some.inj (hx268_3.symm.trans hx270_3)
        injection ea_ with ea_ en_ ec_
        subst ea_
        subst ec_
        clear en_
        have ea_:=Option.some.inj (hx268_5.symm.trans hx270_5)
        injection ea_ with ea_ en_ ec_
        subst ea_
        subst ec_
        clear en_
        go_wp2
        go_ret
        exact ⟨by first|rfl|(simp;done)|(simp [*];done),by repeat (first|exact Drawn0.refl _|apply Drawn0.step)⟩
       ·rw [if_neg c7] at H
        have c7b0 : (((rd_T57 l0 x5_1).f2) != ((Int.tmod (wrap64 ((wrap64 (x1_1 + 1)) + 1)) 3) == 0))=false:=by simpa using c7
        (try (have c7b1 : decide (((rd_T57 l0 x5_1).f2)=((Int.tmod (wrap64 ((wrap64 (x1_1 + 1)) + 1)) 3) == 0))=true:=by simpa using c7))
        (try (have c7b2 : (((rd_T57 l0 x5_1).f2) == ((Int.tmod (wrap64 ((wrap64 (x1_1 + 1)) + 1)) 3) == 0))=true:=by simpa using c7))
        clear c7
        replace H:=Option.bind_eq_some_iff.mp H
        obtain ⟨t272,A80,H⟩:=H
        replace H : (if t272 < 0 then (some (-1)) else (if (((rd_T57 l0 x5_1).f4) != ((Int.tmod t272 3) == 0))=true then (some (-1)) else ((laws_heldIntS.f k1 ((rd_T57 l0 x5_1).f5) (wrap64 (t272 + 1))).bind fun t275=>(if t275 < 0 then (some (-1)) else (laws_heldRecordS.l0 k1 l0 t275 (wrap64 (x5_1 + 1)))))))=some r:=H
        have A8:=Aside0.mk A80
        clear A80
        by_cases c9 : t272 < 0
        ·rw [if_pos c9] at H
         have c9b0 : decide (t272 < 0)=true:=decide_eq_true c9
         clear c9
         obtain rfl:=Option.some.inj H
         have p268 : 0 ≤ (x5_1 : Int):=of_decide_eq_true (by first|(with_reducible assumption)|assumption)
         have q268 : x5_1 < (l0.length : Int):=of_decide_eq_true (by first|(with_reducible assumption)|assumption)
         obtain ⟨ad268,A268_3,c268_3,A268_5,c268_5,e268,hx268_0,hx268_1,hx268_2,hx268_3,hx268_4,hx268_5,hl268_3,hi268_3,hl268_5,hi268_5⟩:=at_T57 HR0.out x5_1 p268 q268
         cases e268
         have HR268_3:=Aside0.mk hi268_3
         have HC268_3:=Aside0.mk hl268_3
         clear hi268_3 hl268_3
         have HR268_5:=Aside0.mk hi268_5
         have HC268_5:=Aside0.mk hl268_5
         clear hi268_5 hl268_5
         replace p268:=eq_true p268
         replace q268:=eq_true q268
         have p269 : 0 ≤ (x5_1 : Int):=of_decide_eq_true (by first|(with_reducible assumption)|assumption)
         have q269 : x5_1 < (l0.length : Int):=of_decide_eq_true (by first|(with_reducible assumption)|assumption)
         obtain ⟨ad269,A269_3,c269_3,A269_5,c269_5,e269,hx269_0,hx269_1,hx269_2,hx269_3,hx269_4,hx269_5,hl269_3,hi269_3,hl269_5,hi269_5⟩:=at_T57 HR0.out x5_1 p269 q269
         obtain rfl : ad268=ad269:=(by injection e269)
         have HR269_3:=Aside0.mk hi269_3
         have HC269_3:=Aside0.mk hl269_3
         clear hi269_3 hl269_3
         have HR269_5:=Aside0.mk hi269_5
         have HC269_5:=Aside0.mk hl269_5
         clear hi269_5 hl269_5
         replace p269:=eq_true p269
         replace q269:=eq_true q269
         have ea_:=Option.some.inj (hx268_3.symm.trans hx269_3)
         injection ea_ with ea_ en_ ec_
         subst ea_
         subst ec_
         clear en_
         have ea_:=Option.some.inj (hx268_5.symm.trans hx269_5)
         injection ea_ with ea_ en_ ec_
         subst ea_
         subst ec_
         clear en_
         have p270 : 0 ≤ (x5_1 : Int):=of_decide_eq_true (by first|(with_reducible assumption)|assumption)
         have q270 : x5_1 < (l0.length : Int):=of_decide_eq_true (by first|(with_reducible assumption)|assumption)
         obtain ⟨ad270,A270_3,c270_3,A270_5,c270_5,e270,hx270_0,hx270_1,hx270_2,hx270_3,hx270_4,hx270_5,hl270_3,hi270_3,hl270_5,hi270_5⟩:=at_T57 HR0.out x5_1 p270 q270
         obtain rfl : ad268=ad270:=(by injection e270)
         have HR270_3:=Aside0.mk hi270_3
         have HC270_3:=Aside0.mk hl270_3
         clear hi270_3 hl270_3
         have HR270_5:=Aside0.mk hi270_5
         have HC270_5:=Aside0.mk hl270_5
         clear hi270_5 hl270_5
         replace p270:=eq_true p270
         replace q270:=eq_true q270
         have ea_:=Option.some.inj (hx268_3.symm.trans hx270_3)
         injection ea_ with ea_ en_ ec_
         subst ea_
         subst ec_
         clear en_
         have ea_:=Option.some.inj (hx268_5.symm.trans hx270_5)
         injection ea_ with ea_ en_ ec_
         subst ea_
         subst ec_
         clear en_
         have p271 : 0 ≤ (x5_1 : Int):=of_decide_eq_true (by first|(with_reducible assumption)|assumption)
         have q271 : x5_1 < (l0.length : Int):=of_decide_eq_true (by first|(with_reducible assumption)|assumption)
         obtain ⟨ad271,A271_3,c271_3,A271_5,c271_5,e271,hx271_0,hx271_1,hx271_2,hx271_3,hx271_4,hx271_5,hl271_3,hi271_3,hl271_5,hi271_5⟩:=at_T57 HR0.out x5_1 p271 q271
         obtain rfl : ad268=ad271:=(by injection e271)
         have HR271_3:=Aside0.mk hi271_3
         have HC271_3:=Aside0.mk hl271_3
         clear hi271_3 hl271_3
         have HR271_5:=Aside0.mk hi271_5
         have HC271_5:=Aside0.mk hl271_5
         clear hi271_5 hl271_5
         replace p271:=eq_true p271
         replace q271:=eq_true q271
         have ea_:=Option.some.inj (hx268_3.symm.trans hx271_3)
         injection ea_ with ea_ en_ ec_
         subst ea_
         subst ec_
         clear en_
         have ea_:=Option.some.inj (hx268_5.symm.trans hx271_5)
         injection ea_ with ea_ en_ ec_
         subst ea_
         subst ec_
         clear en_
         go_wp2_with (first|((with_reducible refine gate_callee (f:=44) rfl ?_);refine goesL_ (some 47) rfl rfl Try.func44 (by kernel_rfl) rfl #[.slice A268_3 ((rd_T57 l0 x5_1).f3).length c268_3,.int .i64 (wrap64 ((wrap64 ((wrap64 (x1_1 + 1)) + 1)) + 1))] rfl (by (try simp only [List.map_toArray,List.map_cons,List.map_nil]);first|done|rfl|(simp only [List.length_drop,List.length_take];rfl)) ?_;(with_reducible refine (laws_heldIntS.calls k1 _ _ ((rd_T57 l0 x5_1).f3) (wrap64 ((wrap64 ((wrap64 (x1_1 + 1)) + 1)) + 1)) t272 _ ?side1 ?side2 A8.out).mono ?_);(case side1=>repeat (first|exact HR271_3.out|(with_reducible refine Kd.C_alloc ?_ _)|(with_reducible refine Kd.C_drewN ?_ _)|(with_reducible refine Kd.C_drew ?_)));(case side2=>exact HC271_3.out);rintro e w' ⟨rfl,⟨nd,rfl⟩⟩;refine ⟨_,rfl,?_⟩))
         go_ret
         exact ⟨by first|rfl|(simp;done)|(simp [*];done),by repeat (first|exact Drawn0.refl _|apply Drawn0.step)⟩
        ·rw [if_neg c9] at H
         have c9b0 : decide (t272 < 0)=false:=decide_eq_false c9
         clear c9
         by_cases c10 : (((rd_T57 l0 x5_1).f4) != ((Int.tmod t272 3) == 0))=true
         ·rw [if_pos c10] at H
          have c10b0 : (((rd_T57 l0 x5_1).f4) != ((Int.tmod t272 3) == 0))=true:=c10
          (try (have c10b1 : decide (((rd_T57 l0 x5_1).f4)=((Int.tmod t272 3) == 0))=false:=by simpa using c10))
          (try (have c10b2 : (((rd_T57 l0 x5_1).f4) == ((Int.tmod t272 3) == 0))=false:=by simpa using c10))
          (try (have c10b3 : ¬ (((rd_T57 l0 x5_1).f4)=((Int.tmod t272 3) == 0)):=by simpa using c10))
          clear c10
          obtain rfl:=Option.some.inj H
          have p268 : 0 ≤ (x5_1 : Int):=of_decide_eq_true (by first|(with_reducible assumption)|assumption)
          have q268 : x5_1 < (l0.length : Int):=of_decide_eq_true (by first|(with_reducible assumption)|assumption)
          obtain ⟨ad268,A268_3,c268_3,A268_5,c268_5,e268,hx268_0,hx268_1,hx268_2,hx268_3,hx268_4,hx268_5,hl268_3,hi268_3,hl268_5,hi268_5⟩:=at_T57 HR0.out x5_1 p268 q268
          cases e268
          have HR268_3:=Aside0.mk hi268_3
          have HC268_3:=Aside0.mk hl268_3
          clear hi268_3 hl268_3
          have HR268_5:=Aside0.mk hi268_5
          have HC268_5:=Aside0.mk hl268_5
          clear hi268_5 hl268_5
          replace p268:=eq_true p268
          replace q268:=eq_true q268
          have p269 : 0 ≤ (x5_1 : Int):=of_decide_eq_true (by first|(with_reducible assumption)|assumption)
          have q269 : x5_1 < (l0.length : Int):=of_decide_eq_true (by first|(with_reducible assumption)|assumption)
          obtain ⟨ad269,A269_3,c269_3,A269_5,c269_5,e269,hx269_0,hx269_1,hx269_2,hx269_3,hx269_4,hx269_5,hl269_3,hi269_3,hl269_5,hi269_5⟩:=at_T57 HR0.out x5_1 p269 q269
          obtain rfl : ad268=ad269:=(by injection e269)
          have HR269_3:=Aside0.mk hi269_3
          have HC269_3:=Aside0.mk hl269_3
          clear hi269_3 hl269_3
          have HR269_5:=Aside0.mk hi269_5
          have HC269_5:=Aside0.mk hl269_5
          clear hi269_5 hl269_5
          replace p269:=eq_true p269
          replace q269:=eq_true q269
          have ea_:=Option.some.inj (hx268_3.symm.trans hx269_3)
          injection ea_ with ea_ en_ ec_
          subst ea_
          subst ec_
          clear en_
          have ea_:=Option.some.inj (hx268_5.symm.trans hx269_5)
          injection ea_ with ea_ en_ ec_
          subst ea_
          subst ec_
          clear en_
          have p270 : 0 ≤ (x5_1 : Int):=of_decide_eq_true (by first|(with_reducible assumption)|assumption)
          have q270 : x5_1 < (l0.length : Int):=of_decide_eq_true (by first|(with_reducible assumption)|assumption)
          obtain ⟨ad270,A270_3,c270_3,A270_5,c270_5,e270,hx270_0,hx270_1,hx270_2,hx270_3,hx270_4,hx270_5,hl270_3,hi270_3,hl270_5,hi270_5⟩:=at_T57 HR0.out x5_1 p270 q270
          obtain rfl : ad268=ad270:=(by injection e270)
          have HR270_3:=Aside0.mk hi270_3
          have HC270_3:=Aside0.mk hl270_3
          clear hi270_3 hl270_3
          have HR270_5:=Aside0.mk hi270_5
          have HC270_5:=Aside0.mk hl270_5
          clear hi270_5 hl270_5
          replace p270:=eq_true p270
          replace q270:=eq_true q270
          have ea_:=Option.some.inj (hx268_3.symm.trans hx270_3)
          injection ea_ with ea_ en_ ec_
          subst ea_
          subst ec_
          clear en_
          have ea_:=Option.some.inj (hx268_5.symm.trans hx270_5)
          injection ea_ with ea_ en_ ec_
          subst ea_
          subst ec_
          clear en_
          have p271 : 0 ≤ (x5_1 : Int):=of_decide_eq_true (by first|(with_reducible assumption)|assumption)
          have q271 : x5_1 < (l0.length : Int):=of_decide_eq_true (by first|(with_reducible assumption)|assumption)
          obtain ⟨ad271,A271_3,c271_3,A271_5,c271_5,e271,hx271_0,hx271_1,hx271_2,hx271_3,hx271_4,hx271_5,hl271_3,hi271_3,hl271_5,hi271_5⟩:=at_T57 HR0.out x5_1 p271 q271
          obtain rfl : ad268=ad271:=(by injection e271)
          have HR271_3:=Aside0.mk hi271_3
          have HC271_3:=Aside0.mk hl271_3
          clear hi271_3 hl271_3
          have HR271_5:=Aside0.mk hi271_5
          have HC271_5:=Aside0.mk hl271_5
          clear hi271_5 hl271_5
          replace p271:=eq_true p271
          replace q271:=eq_true q271
          have ea_:=Option.some.inj (hx268_3.symm.trans hx271_3)
          injection ea_ with ea_ en_ ec_
          subst ea_
          subst ec_
          clear en_
          have ea_:=Option.some.inj (hx268_5.symm.trans hx271_5)
          injection ea_ with ea_ en_ ec_
          subst ea_
          subst ec_
          clear en_
          go_wp2_with (first|((with_reducible refine gate_callee (f:=44) rfl ?_);refine goesL_ (some 47) rfl rfl Try.func44 (by kernel_rfl) rfl #[.slice A268_3 ((rd_T57 l0 x5_1).f3).length c268_3,.int .i64 (wrap64 ((wrap64 ((wrap64 (x1_1 + 1)) + 1)) + 1))] rfl (by (try simp only [List.map_toArray,List.map_cons,List.map_nil]);first|done|rfl|(simp only [List.length_drop,List.length_take];rfl)) ?_;(with_reducible refine (laws_heldIntS.calls k1 _ _ ((rd_T57 l0 x5_1).f3) (wrap64 ((wrap64 ((wrap64 (x1_1 + 1)) + 1)) + 1)) t272 _ ?side1 ?side2 A8.out).mono ?_);(case side1=>repeat (first|exact HR271_3.out|(with_reducible refine Kd.C_alloc ?_ _)|(with_reducible refine Kd.C_drewN ?_ _)|(with_reducible refine Kd.C_drew ?_)));(case side2=>exact HC271_3.out);rintro e w' ⟨rfl,⟨nd,rfl⟩⟩;refine ⟨_,rfl,?_⟩;have p273 : 0 ≤ (x5_1 : Int):=of_decide_eq_true (by first|(with_reducible assumption)|assumption);have q273 : x5_1 < (l0.length : Int):=of_decide_eq_true (by first|(with_reducible assumption)|assumption);obtain ⟨ad273,A273_3,c273_3,A273_5,c273_5,e273,hx273_0,hx273_1,hx273_2,hx273_3,hx273_4,hx273_5,hl273_3,hi273_3,hl273_5,hi273_5⟩:=at_T57 HR0.out x5_1 p273 q273;obtain rfl : ad268=ad273:=(by injection e273);have HR273_3:=Aside0.mk hi273_3;have HC273_3:=Aside0.mk hl273_3;clear hi273_3 hl273_3;have HR273_5:=Aside0.mk hi273_5;have HC273_5:=Aside0.mk hl273_5;clear hi273_5 hl273_5;replace p273:=eq_true p273;replace q273:=eq_true q273;have ea_:=Option.some.inj (hx268_3.symm.trans hx273_3);injection ea_ with ea_ en_ ec_;subst ea_;subst ec_;clear en_;have ea_:=Option.some.inj (hx268_5.symm.trans hx273_5);injection ea_ with ea_ en_ ec_;subst ea_;subst ec_;clear en_))
          go_ret
          exact ⟨by first|rfl|(simp;done)|(simp [*];done),by repeat (first|exact Drawn0.refl _|apply Drawn0.step)⟩
         ·rw [if_neg c10] at H
          have c10b0 : (((rd_T57 l0 x5_1).f4) != ((Int.tmod t272 3) == 0))=false:=by simpa using c10
          (try (have c10b1 : decide (((rd_T57 l0 x5_1).f4)=((Int.tmod t272 3) == 0))=true:=by simpa using c10))
          (try (have c10b2 : (((rd_T57 l0 x5_1).f4) == ((Int.tmod t272 3) == 0))=true:=by simpa using c10))
          clear c10
          replace H:=Option.bind_eq_some_iff.mp H
          obtain ⟨t275,A110,H⟩:=H
          replace H : (if t275 < 0 then (some (-1)) else (laws_heldRecordS.l0 k1 l0 t275 (wrap64 (x5_1 + 1))))=some r:=H
          have A11:=Aside0.mk A110
          clear A110
          by_cases c12 : t275 < 0
          ·rw [if_pos c12] at H
           have c12b0 : decide (t275 < 0)=true:=decide_eq_true c12
           clear c12
           obtain rfl:=Option.some.inj H
           have p268 : 0 ≤ (x5_1 : Int):=of_decide_eq_true (by first|(with_reducible assumption)|assumption)
           have q268 : x5_1 < (l0.length : Int):=of_decide_eq_true (by first|(with_reducible assumption)|assumption)
           obtain ⟨ad268,A268_3,c268_3,A268_5,c268_5,e268,hx268_0,hx268_1,hx268_2,hx268_3,hx268_4,hx268_5,hl268_3,hi268_3,hl268_5,hi268_5⟩:=at_T57 HR0.out x5_1 p268 q268
           cases e268
           have HR268_3:=Aside0.mk hi268_3
           have HC268_3:=Aside0.mk hl268_3
           clear hi268_3 hl268_3
           have HR268_5:=Aside0.mk hi268_5
           have HC268_5:=Aside0.mk hl268_5
           clear hi268_5 hl268_5
           replace p268:=eq_true p268
           replace q268:=eq_true q268
           have p269 : 0 ≤ (x5_1 : Int):=of_decide_eq_true (by first|(with_reducible assumption)|assumption)
           have q269 : x5_1 < (l0.length : Int):=of_decide_eq_true (by first|(with_reducible assumption)|assumption)
           obtain ⟨ad269,A269_3,c269_3,A269_5,c269_5,e269,hx269_0,hx269_1,hx269_2,hx269_3,hx269_4,hx269_5,hl269_3,hi269_3,hl269_5,hi269_5⟩:=at_T57 HR0.out x5_1 p269 q269
           obtain rfl : ad268=ad269:=(by injection e269)
           have HR269_3:=Aside0.mk hi269_3
           have HC269_3:=Aside0.mk hl269_3
           clear hi269_3 hl269_3
           have HR269_5:=Aside0.mk hi269_5
           have HC269_5:=Aside0.mk hl269_5
           clear hi269_5 hl269_5
           replace p269:=eq_true p269
           replace q269:=eq_true q269
           have ea_:=Option.some.inj (hx268_3.symm.trans hx269_3)
           injection ea_ with ea_ en_ ec_
           subst ea_
           subst ec_
           clear en_
           have ea_:=Option.some.inj (hx268_5.symm.trans hx269_5)
           injection ea_ with ea_ en_ ec_
           subst ea_
           subst ec_
           clear en_
           have p270 : 0 ≤ (x5_1 : Int):=of_decide_eq_true (by first|(with_reducible assumption)|assumption)
           have q270 : x5_1 < (l0.length : Int):=of_decide_eq_true (by first|(with_reducible assumption)|assumption)
           obtain ⟨ad270,A270_3,c270_3,A270_5,c270_5,e270,hx270_0,hx270_1,hx270_2,hx270_3,hx270_4,hx270_5,hl270_3,hi270_3,hl270_5,hi270_5⟩:=at_T57 HR0.out x5_1 p270 q270
           obtain rfl : ad268=ad270:=(by injection e270)
           have HR270_3:=Aside0.mk hi270_3
           have HC270_3:=Aside0.mk hl270_3
           clear hi270_3 hl270_3
           have HR270_5:=Aside0.mk hi270_5
           have HC270_5:=Aside0.mk hl270_5
           clear hi270_5 hl270_5
           replace p270:=eq_true p270
           replace q270:=eq_true q270
           have ea_:=Option.some.inj (hx268_3.symm.trans hx270_3)
           injection ea_ with ea_ en_ ec_
           subst ea_
           subst ec_
           clear en_
           have ea_:=Option.some.inj (hx268_5.symm.trans hx270_5)
           injection ea_ with ea_ en_ ec_
           subst ea_
           subst ec_
           clear en_
           have p271 : 0 ≤ (x5_1 : Int):=of_decide_eq_true (by first|(with_reducible assumption)|assumption)
           have q271 : x5_1 < (l0.length : Int):=of_decide_eq_true (by first|(with_reducible assumption)|assumption)
           obtain ⟨ad271,A271_3,c271_3,A271_5,c271_5,e271,hx271_0,hx271_1,hx271_2,hx271_3,hx271_4,hx271_5,hl271_3,hi271_3,hl271_5,hi271_5⟩:=at_T57 HR0.out x5_1 p271 q271
           obtain rfl : ad268=ad271:=(by injection e271)
           have HR271_3:=Aside0.mk hi271_3
           have HC271_3:=Aside0.mk hl271_3
           clear hi271_3 hl271_3
           have HR271_5:=Aside0.mk hi271_5
           have HC271_5:=Aside0.mk hl271_5
           clear hi271_5 hl271_5
           replace p271:=eq_true p271
           replace q271:=eq_true q271
           have ea_:=Option.some.inj (hx268_3.symm.trans hx271_3)
           injection ea_ with ea_ en_ ec_
           subst ea_
           subst ec_
           clear en_
           have ea_:=Option.some.inj (hx268_5.symm.trans hx271_5)
           injection ea_ with ea_ en_ ec_
           subst ea_
           subst ec_
           clear en_
           go_wp2_with (first|((with_reducible refine gate_callee (f:=44) rfl ?_);refine goesL_ (some 47) rfl rfl Try.func44 (by kernel_rfl) rfl #[.slice A268_3 ((rd_T57 l0 x5_1).f3).length c268_3,.int .i64 (wrap64 ((wrap64 ((wrap64 (x1_1 + 1)) + 1)) + 1))] rfl (by (try simp only [List.map_toArray,List.map_cons,List.map_nil]);first|done|rfl|(simp only [List.length_drop,List.length_take];rfl)) ?_;(with_reducible refine (laws_heldIntS.calls k1 _ _ ((rd_T57 l0 x5_1).f3) (wrap64 ((wrap64 ((wrap64 (x1_1 + 1)) + 1)) + 1)) t272 _ ?side1 ?side2 A8.out).mono ?_);(case side1=>repeat (first|exact HR271_3.out|(with_reducible refine Kd.C_alloc ?_ _)|(with_reducible refine Kd.C_drewN ?_ _)|(with_reducible refine Kd.C_drew ?_)));(case side2=>exact HC271_3.out);rintro e w' ⟨rfl,⟨nd,rfl⟩⟩;refine ⟨_,rfl,?_⟩;have p273 : 0 ≤ (x5_1 : Int):=of_decide_eq_true (by first|(with_reducible assumption)|assumption);have q273 : x5_1 < (l0.length : Int):=of_decide_eq_true (by first|(with_reducible assumption)|assumption);obtain ⟨ad273,A273_3,c273_3,A273_5,c273_5,e273,hx273_0,hx273_1,hx273_2,hx273_3,hx273_4,hx273_5,hl273_3,hi273_3,hl273_5,hi273_5⟩:=at_T57 HR0.out x5_1 p273 q273;obtain rfl : ad268=ad273:=(by injection e273);have HR273_3:=Aside0.mk hi273_3;have HC273_3:=Aside0.mk hl273_3;clear hi273_3 hl273_3;have HR273_5:=Aside0.mk hi273_5;have HC273_5:=Aside0.mk hl273_5;clear hi273_5 hl273_5;replace p273:=eq_true p273;replace q273:=eq_true q273;have ea_:=Option.some.inj (hx268_3.symm.trans hx273_3);injection ea_ with ea_ en_ ec_;subst ea_;subst ec_;clear en_;have ea_:=Option.some.inj (hx268_5.symm.trans hx273_5);injection ea_ with ea_ en_ ec_;subst ea_;subst ec_;clear en_;have p274 : 0 ≤ (x5_1 : Int):=of_decide_eq_true (by first|(with_reducible assumption)|assumption);have q274 : x5_1 < (l0.length : Int):=of_decide_eq_true (by first|(with_reducible assumption)|assumption);obtain ⟨ad274,A274_3,c274_3,A274_5,c274_5,e274,hx274_0,hx274_1,hx274_2,hx274_3,hx274_4,hx274_5,hl274_3,hi274_3,hl274_5,hi274_5⟩:=at_T57 HR0.out x5_1 p274 q274;obtain rfl : ad268=ad274:=(by injection e274);have HR274_3:=Aside0.mk hi274_3;have HC274_3:=Aside0.mk hl274_3;clear hi274_3 hl274_3;have HR274_5:=Aside0.mk hi274_5;have HC274_5:=Aside0.mk hl274_5;clear hi274_5 hl274_5;replace p274:=eq_true p274;replace q274:=eq_true q274;have ea_:=Option.some.inj (hx268_3.symm.trans hx274_3);injection ea_ with ea_ en_ ec_;subst ea_;subst ec_;clear en_;have ea_:=Option.some.inj (hx268_5.symm.trans hx274_5);injection ea_ with ea_ en_ ec_;subst ea_;subst ec_;clear en_)|((with_reducible refine gate_callee (f:=44) rfl ?_);refine goesL_ (some 67) rfl rfl Try.func44 (by kernel_rfl) rfl #[.slice A268_5 ((rd_T57 l0 x5_1).f5).length c268_5,.int .i64 (wrap64 (t272 + 1))] rfl (by (try simp only [List.map_toArray,List.map_cons,List.map_nil]);first|done|rfl|(simp only [List.length_drop,List.length_take];rfl)) ?_;(with_reducible refine (laws_heldIntS.calls k1 _ _ ((rd_T57 l0 x5_1).f5) (wrap64 (t272 + 1)) t275 _ ?side1 ?side2 A11.out).mono ?_);(case side1=>repeat (first|exact HR274_5.out|(with_reducible refine Kd.C_alloc ?_ _)|(with_reducible refine Kd.C_drewN ?_ _)|(with_reducible refine Kd.C_drew ?_)));(case side2=>exact HC274_5.out);rintro e w' ⟨rfl,⟨nd,rfl⟩⟩;refine ⟨_,rfl,?_⟩))
           go_ret
           exact ⟨by first|rfl|(simp;done)|(simp [*];done),by repeat (first|exact Drawn0.refl _|apply Drawn0.step)⟩
          ·rw [if_neg c12] at H
           have c12b0 : decide (t275 < 0)=false:=decide_eq_false c12
           clear c12
           have H':=Aside0.mk H
           clear H
           have p268 : 0 ≤ (x5_1 : Int):=of_decide_eq_true (by first|(with_reducible assumption)|assumption)
           have q268 : x5_1 < (l0.length : Int):=of_decide_eq_true (by first|(with_reducible assumption)|assumption)
           obtain ⟨ad268,A268_3,c268_3,A268_5,c268_5,e268,hx268_0,hx268_1,hx268_2,hx268_3,hx268_4,hx268_5,hl268_3,hi268_3,hl268_5,hi268_5⟩:=at_T57 HR0.out x5_1 p268 q268
           cases e268
           have HR268_3:=Aside0.mk hi268_3
           have HC268_3:=Aside0.mk hl268_3
           clear hi268_3 hl268_3
           have HR268_5:=Aside0.mk hi268_5
           have HC268_5:=Aside0.mk hl268_5
           clear hi268_5 hl268_5
           replace p268:=eq_true p268
           replace q268:=eq_true q268
           have p269 : 0 ≤ (x5_1 : Int):=of_decide_eq_true (by first|(with_reducible assumption)|assumption)
           have q269 : x5_1 < (l0.length : Int):=of_decide_eq_true (by first|(with_reducible assumption)|assumption)
           obtain ⟨ad269,A269_3,c269_3,A269_5,c269_5,e269,hx269_0,hx269_1,hx269_2,hx269_3,hx269_4,hx269_5,hl269_3,hi269_3,hl269_5,hi269_5⟩:=at_T57 HR0.out x5_1 p269 q269
           obtain rfl : ad268=ad269:=(by injection e269)
           have HR269_3:=Aside0.mk hi269_3
           have HC269_3:=Aside0.mk hl269_3
           clear hi269_3 hl269_3
           have HR269_5:=Aside0.mk hi269_5
           have HC269_5:=Aside0.mk hl269_5
           clear hi269_5 hl269_5
           replace p269:=eq_true p269
           replace q269:=eq_true q269
           have ea_:=Option.some.inj (hx268_3.symm.trans hx269_3)
           injection ea_ with ea_ en_ ec_
           subst ea_
           subst ec_
           clear en_
           have ea_:=Option.some.inj (hx268_5.symm.trans hx269_5)
           injection ea_ with ea_ en_ ec_
           subst ea_
           subst ec_
           clear en_
           have p270 : 0 ≤ (x5_1 : Int):=of_decide_eq_true (by first|(with_reducible assumption)|assumption)
           have q270 : x5_1 < (l0.length : Int):=of_decide_eq_true (by first|(with_reducible assumption)|assumption)
           obtain ⟨ad270,A270_3,c270_3,A270_5,c270_5,e270,hx270_0,hx270_1,hx270_2,hx270_3,hx270_4,hx270_5,hl270_3,hi270_3,hl270_5,hi270_5⟩:=at_T57 HR0.out x5_1 p270 q270
           obtain rfl : ad268=ad270:=(by injection e270)
           have HR270_3:=Aside0.mk hi270_3
           have HC270_3:=Aside0.mk hl270_3
           clear hi270_3 hl270_3
           have HR270_5:=Aside0.mk hi270_5
           have HC270_5:=Aside0.mk hl270_5
           clear hi270_5 hl270_5
           replace p270:=eq_true p270
           replace q270:=eq_true q270
           have ea_:=Option.some.inj (hx268_3.symm.trans hx270_3)
           injection ea_ with ea_ en_ ec_
           subst ea_
           subst ec_
           clear en_
           have ea_:=Option.some.inj (hx268_5.symm.trans hx270_5)
           injection ea_ with ea_ en_ ec_
           subst ea_
           subst ec_
           clear en_
           have p271 : 0 ≤ (x5_1 : Int):=of_decide_eq_true (by first|(with_reducible assumption)|assumption)
           have q271 : x5_1 < (l0.length : Int):=of_decide_eq_true (by first|(with_reducible assumption)|assumption)
           obtain ⟨ad271,A271_3,c271_3,A271_5,c271_5,e271,hx271_0,hx271_1,hx271_2,hx271_3,hx271_4,hx271_5,hl271_3,hi271_3,hl271_5,hi271_5⟩:=at_T57 HR0.out x5_1 p271 q271
           obtain rfl : ad268=ad271:=(by injection e271)
           have HR271_3:=Aside0.mk hi271_3
           have HC271_3:=Aside0.mk hl271_3
           clear hi271_3 hl271_3
           have HR271_5:=Aside0.mk hi271_5
           have HC271_5:=Aside0.mk hl271_5
           clear hi271_5 hl271_5
           replace p271:=eq_true p271
           replace q271:=eq_true q271
           have ea_:=Option.some.inj (hx268_3.symm.trans hx271_3)
           injection ea_ with ea_ en_ ec_
           subst ea_
           subst ec_
           clear en_
           have ea_:=Option.some.inj (hx268_5.symm.trans hx271_5)
           injection ea_ with ea_ en_ ec_
           subst ea_
           subst ec_
           clear en_
           go_wp2_with (first|((with_reducible refine gate_callee (f:=44) rfl ?_);refine goesL_ (some 47) rfl rfl Try.func44 (by kernel_rfl) rfl #[.slice A268_3 ((rd_T57 l0 x5_1).f3).length c268_3,.int .i64 (wrap64 ((wrap64 ((wrap64 (x1_1 + 1)) + 1)) + 1))] rfl (by (try simp only [List.map_toArray,List.map_cons,List.map_nil]);first|done|rfl|(simp only [List.length_drop,List.length_take];rfl)) ?_;(with_reducible refine (laws_heldIntS.calls k1 _ _ ((rd_T57 l0 x5_1).f3) (wrap64 ((wrap64 ((wrap64 (x1_1 + 1)) + 1)) + 1)) t272 _ ?side1 ?side2 A8.out).mono ?_);(case side1=>repeat (first|exact HR271_3.out|(with_reducible refine Kd.C_alloc ?_ _)|(with_reducible refine Kd.C_drewN ?_ _)|(with_reducible refine Kd.C_drew ?_)));(case side2=>exact HC271_3.out);rintro e w' ⟨rfl,⟨nd,rfl⟩⟩;refine ⟨_,rfl,?_⟩;have p273 : 0 ≤ (x5_1 : Int):=of_decide_eq_true (by first|(with_reducible assumption)|assumption);have q273 : x5_1 < (l0.length : Int):=of_decide_eq_true (by first|(with_reducible assumption)|assumption);obtain ⟨ad273,A273_3,c273_3,A273_5,c273_5,e273,hx273_0,hx273_1,hx273_2,hx273_3,hx273_4,hx273_5,hl273_3,hi273_3,hl273_5,hi273_5⟩:=at_T57 HR0.out x5_1 p273 q273;obtain rfl : ad268=ad273:=(by injection e273);have HR273_3:=Aside0.mk hi273_3;have HC273_3:=Aside0.mk hl273_3;clear hi273_3 hl273_3;have HR273_5:=Aside0.mk hi273_5;have HC273_5:=Aside0.mk hl273_5;clear hi273_5 hl273_5;replace p273:=eq_true p273;replace q273:=eq_true q273;have ea_:=Option.some.inj (hx268_3.symm.trans hx273_3);injection ea_ with ea_ en_ ec_;subst ea_;subst ec_;clear en_;have ea_:=Option.some.inj (hx268_5.symm.trans hx273_5);injection ea_ with ea_ en_ ec_;subst ea_;subst ec_;clear en_;have p274 : 0 ≤ (x5_1 : Int):=of_decide_eq_true (by first|(with_reducible assumption)|assumption);have q274 : x5_1 < (l0.length : Int):=of_decide_eq_true (by first|(with_reducible assumption)|assumption);obtain ⟨ad274,A274_3,c274_3,A274_5,c274_5,e274,hx274_0,hx274_1,hx274_2,hx274_3,hx274_4,hx274_5,hl274_3,hi274_3,hl274_5,hi274_5⟩:=at_T57 HR0.out x5_1 p274 q274;obtain rfl : ad268=ad274:=(by injection e274);have HR274_3:=Aside0.mk hi274_3;have HC274_3:=Aside0.mk hl274_3;clear hi274_3 hl274_3;have HR274_5:=Aside0.mk hi274_5;have HC274_5:=Aside0.mk hl274_5;clear hi274_5 hl274_5;replace p274:=eq_true p274;replace q274:=eq_true q274;have ea_:=Option.some.inj (hx268_3.symm.trans hx274_3);injection ea_ with ea_ en_ ec_;subst ea_;subst ec_;clear en_;have ea_:=Option.some.inj (hx268_5.symm.trans hx274_5);injection ea_ with ea_ en_ ec_;subst ea_;subst ec_;clear en_)|((with_reducible refine gate_callee (f:=44) rfl ?_);refine goesL_ (some 67) rfl rfl Try.func44 (by kernel_rfl) rfl #[.slice A268_5 ((rd_T57 l0 x5_1).f5).length c268_5,.int .i64 (wrap64 (t272 + 1))] rfl (by (try simp only [List.map_toArray,List.map_cons,List.map_nil]);first|done|rfl|(simp only [List.length_drop,List.length_take];rfl)) ?_;(with_reducible refine (laws_heldIntS.calls k1 _ _ ((rd_T57 l0 x5_1).f5) (wrap64 (t272 + 1)) t275 _ ?side1 ?side2 A11.out).mono ?_);(case side1=>repeat (first|exact HR274_5.out|(with_reducible refine Kd.C_alloc ?_ _)|(with_reducible refine Kd.C_drewN ?_ _)|(with_reducible refine Kd.C_drew ?_)));(case side2=>exact HC274_5.out);rintro e w' ⟨rfl,⟨nd,rfl⟩⟩;refine ⟨_,rfl,?_⟩))
           go_roundg k1
           case measure=>have:=HK1.out;omega
           case rel=>exact ⟨(t275),(wrap64 (x5_1 + 1)),(by first|rfl|(simp;done)|(simp [*];done)),(by first|rfl|(simp;done)|(simp [*];done)),H',⟨by have:=HK1.out;omega⟩,by repeat (first|exact Drawn0.refl _|apply Drawn0.step)⟩
      ·rw [if_neg c6] at H
       have c6b0 : (((rd_T57 l0 x5_1).f1) == (wrap64 (x1_1 + 1)))=false:=beq_eq_false_iff_ne.mpr c6
       have c6b1 : (((rd_T57 l0 x5_1).f1) != (wrap64 (x1_1 + 1)))=true:=bne_iff_ne.mpr c6
       obtain rfl:=Option.some.inj H
       have p268 : 0 ≤ (x5_1 : Int):=of_decide_eq_true (by first|(with_reducible assumption)|assumption)
       have q268 : x5_1 < (l0.length : Int):=of_decide_eq_true (by first|(with_reducible assumption)|assumption)
       obtain ⟨ad268,A268_3,c268_3,A268_5,c268_5,e268,hx268_0,hx268_1,hx268_2,hx268_3,hx268_4,hx268_5,hl268_3,hi268_3,hl268_5,hi268_5⟩:=at_T57 HR0.out x5_1 p268 q268
       cases e268
       have HR268_3:=Aside0.mk hi268_3
       have HC268_3:=Aside0.mk hl268_3
       clear hi268_3 hl268_3
       have HR268_5:=Aside0.mk hi268_5
       have HC268_5:=Aside0.mk hl268_5
       clear hi268_5 hl268_5
       replace p268:=eq_true p268
       replace q268:=eq_true q268
       have p269 : 0 ≤ (x5_1 : Int):=of_decide_eq_true (by first|(with_reducible assumption)|assumption)
       have q269 : x5_1 < (l0.length : Int):=of_decide_eq_true (by first|(with_reducible assumption)|assumption)
       obtain ⟨ad269,A269_3,c269_3,A269_5,c269_5,e269,hx269_0,hx269_1,hx269_2,hx269_3,hx269_4,hx269_5,hl269_3,hi269_3,hl269_5,hi269_5⟩:=at_T57 HR0.out x5_1 p269 q269
       obtain rfl : ad268=ad269:=(by injection e269)
       have HR269_3:=Aside0.mk hi269_3
       have HC269_3:=Aside0.mk hl269_3
       clear hi269_3 hl269_3
       have HR269_5:=Aside0.mk hi269_5
       have HC269_5:=Aside0.mk hl269_5
       clear hi269_5 hl269_5
       replace p269:=eq_true p269
       replace q269:=eq_true q269
       have ea_:=Option.some.inj (hx268_3.symm.trans hx269_3)
       injection ea_ with ea_ en_ ec_
       subst ea_
       subst ec_
       clear en_
       have ea_:=Option.some.inj (hx268_5.symm.trans hx269_5)
       injection ea_ with ea_ en_ ec_
       subst ea_
       subst ec_
       clear en_
       go_wp2
       go_ret
       exact ⟨by first|rfl|(simp;done)|(simp [*];done),by repeat (first|exact Drawn0.refl _|apply Drawn0.step)⟩
     ·rw [if_neg c5] at H
      have c5b0 : (((rd_T57 l0 x5_1).f0) == x1_1)=false:=beq_eq_false_iff_ne.mpr c5
      have c5b1 : (((rd_T57 l0 x5_1).f0) != x1_1)=true:=bne_iff_ne.mpr c5
      obtain rfl:=Option.some.inj H
      have p268 : 0 ≤ (x5_1 : Int):=of_decide_eq_true (by first|(with_reducible assumption)|assumption)
      have q268 : x5_1 < (l0.length : Int):=of_decide_eq_true (by first|(with_reducible assumption)|assumption)
      obtain ⟨ad268,A268_3,c268_3,A268_5,c268_5,e268,hx268_0,hx268_1,hx268_2,hx268_3,hx268_4,hx268_5,hl268_3,hi268_3,hl268_5,hi268_5⟩:=at_T57 HR0.out x5_1 p268 q268
      cases e268
      have HR268_3:=Aside0.mk hi268_3
      have HC268_3:=Aside0.mk hl268_3
      clear hi268_3 hl268_3
      have HR268_5:=Aside0.mk hi268_5
      have HC268_5:=Aside0.mk hl268_5
      clear hi268_5 hl268_5
      replace p268:=eq_true p268
      replace q268:=eq_true q268
      go_wp2
      go_ret
      exact ⟨by first|rfl|(simp;done)|(simp [*];done),by repeat (first|exact Drawn0.refl _|apply Drawn0.step)⟩
    ·rw [if_neg c4] at H
     exact absurd H (by simp)
   ·rw [if_neg c3] at H
    have c3b0 : decide (x5_1 < (l0.length : Int))=false:=decide_eq_false c3
    clear c3
    obtain rfl:=Option.some.inj H
    go_wp2
    go_ret
    exact ⟨by first|rfl|(simp;done)|(simp [*];done),by repeat (first|exact Drawn0.refl _|apply Drawn0.step)⟩

/-! ### laws_heldBatch: function 30 -/
def laws_heldBatch.f (k : Nat) (a0_0 : Bool) (a0_1 : Bool) (a0_2 : Int) (a0_3 : Int) (a0_4 : Int) (l0_5 : List (S57)) (a1 : Int) : Option (Int):=(laws_heldRecordS.f k l0_5 a1).bind fun t277=>(if t277 < 0 then (some (-1)) else (some t277))
theorem laws_heldBatch.mono : ∀ a0 a1 a2 a3 a4 a5 a6 k,LeO (laws_heldBatch.f k a0 a1 a2 a3 a4 a5 a6) (laws_heldBatch.f (k + 1) a0 a1 a2 a3 a4 a5 a6):=by
 intro a0 a1 a2 a3 a4 a5 a6 k
 unfold laws_heldBatch.f
 repeat' first
   | (with_reducible exact laws_heldRecordS.mono _ _ _)
   | (with_reducible exact LeO.refl _)
   | (with_reducible exact LeO.none _)
   | (with_reducible refine LeO.ite ?_ ?_)
   | (with_reducible refine LeO.bind ?_ (fun _=>?_))
   | exact laws_heldRecordS.mono _ _ _
   | exact LeO.none _
   | refine LeO.ite ?_ ?_
   | refine LeO.bind ?_ (fun _=>?_)
set_option maxHeartbeats 8000000 in
set_option maxRecDepth 100000 in
theorem laws_heldBatch.calls (k : Nat) (a0_0 : Bool) (a0_1 : Bool) (a0_2 : Int) (a0_3 : Int) (a0_4 : Int) (A0_5 : Option Addr) (c0_5 : Nat) (l0_5 : List (S57)) (a1 : Int) (r : Int) (w : World) (hr0_5 : Kd.C k57 w A0_5 l0_5.length l0_5) (hc0_5 : l0_5.length ≤ c0_5) (h : laws_heldBatch.f k a0_0 a0_1 a0_2 a0_3 a0_4 l0_5 a1=some r) :
  Calls Try.prog 30 #[.agg #[.bool a0_0,.bool a0_1,.int .i64 a0_2,.int .i64 a0_3,.int .i64 a0_4,.slice A0_5 l0_5.length c0_5],.int .i64 a1] w fun e w'=>e = .returned (.int .i64 r)∧Below w.heap.size w w':=by
 have hu39:=Try.underlying39
 have HR0_5:=Aside0.mk hr0_5
 have HC0_5:=Aside0.mk hc0_5
 clear hr0_5 hc0_5
 have HB:=Aside0.mk (Below.refl w.heap.size w)
 have H : ((laws_heldRecordS.f k l0_5 a1).bind fun t277=>(if t277 < 0 then (some (-1)) else (some t277)))=some r:=h
 clear h
 replace H:=Option.bind_eq_some_iff.mp H
 obtain ⟨t277,A30,H⟩:=H
 replace H : (if t277 < 0 then (some (-1)) else (some t277))=some r:=H
 have A3:=Aside0.mk A30
 clear A30
 by_cases c4 : t277 < 0
 ·rw [if_pos c4] at H
  have c4b0 : decide (t277 < 0)=true:=decide_eq_true c4
  clear c4
  obtain rfl:=Option.some.inj H
  go_enter Try.func30,Try.ntmps30
  go_wp2_with (first|((with_reducible refine gate_dst (N:=2) rfl ?_);refine box_event ?hg (N:=2) ?hd (cs:=#[.bool a0_0,.bool a0_1,.int .i64 a0_2,.int .i64 a0_3,.int .i64 a0_4,.slice A0_5 l0_5.length c0_5]) (t:=39) ?hr ?_;(case hd=>rfl);(case hg=>rfl);(case hr=>first|(go_simp;done)|(go_simp;rfl));intro gb276 hg w5 hbox hb;have n0_:=Aside0.mk (below_step (by repeat (first|(with_reducible first|exact HB.out|apply below_alloc|apply pw_below_drewN|apply below_drew1)|exact HB.out)) hb);have n1_:=Aside0.mk (hbox);have n2_:=Aside0.mk ((by rw [hg];exact (below_size (by repeat (first|(with_reducible first|exact HB.out|apply below_alloc|apply pw_below_drewN|apply below_drew1)|exact HB.out))) : w.heap.size ≤ gb276));have n3_:=Aside0.mk ((by rw [hg];exact (below_size (by repeat (first|(with_reducible first|exact HB.out|apply below_alloc|apply pw_below_drewN|apply below_drew1)|exact HB.out))) : w.heap.size ≤ gb276));clear HB;have HB:=n0_;have BK276:=n1_;have GW276:=n2_;have GE276:=n3_;clear n0_ n1_ n2_ n3_;clear hb hbox hg;have hcz6_0 : w5.cell? ⟨gb276,0,none⟩ = some (.bool a0_0):=(blk_cell BK276.out 0).trans rfl;have hcz6_1 : w5.cell? ⟨gb276,1,none⟩ = some (.bool a0_1):=(blk_cell BK276.out 1).trans rfl;have hcz6_2 : w5.cell? ⟨gb276,2,none⟩ = some (.int .i64 a0_2):=(blk_cell BK276.out 2).trans rfl;have hcz6_3 : w5.cell? ⟨gb276,3,none⟩ = some (.int .i64 a0_3):=(blk_cell BK276.out 3).trans rfl;have hcz6_4 : w5.cell? ⟨gb276,4,none⟩ = some (.int .i64 a0_4):=(blk_cell BK276.out 4).trans rfl;have hcz6_5 : w5.cell? ⟨gb276,5,none⟩ = some (.slice A0_5 l0_5.length c0_5):=(blk_cell BK276.out 5).trans rfl;have hfz6_0:=blk_frozen BK276.out 0;have hfz6_1:=blk_frozen BK276.out 1;have hfz6_2:=blk_frozen BK276.out 2;have hfz6_3:=blk_frozen BK276.out 3;have hfz6_4:=blk_frozen BK276.out 4;have hfz6_5:=blk_frozen BK276.out 5)|((with_reducible refine gate_callee (f:=66) rfl ?_);refine goesL_ (some 8) rfl rfl Try.func66 (by kernel_rfl) rfl #[.slice A0_5 l0_5.length c0_5,.int .i64 a1] rfl (by (try simp only [List.map_toArray,List.map_cons,List.map_nil]);first|done|rfl|(simp only [List.length_drop,List.length_take];rfl)) ?_;(with_reducible refine (laws_heldRecordS.calls k _ _ l0_5 a1 t277 _ ?side1 ?side2 A3.out).mono ?_);(case side1=>repeat (first|exact (Kd.C_below HR0_5.out HB.out)|(with_reducible refine Kd.C_alloc ?_ _)|(with_reducible refine Kd.C_drewN ?_ _)|(with_reducible refine Kd.C_drew ?_)));(case side2=>exact HC0_5.out);rintro e w' ⟨rfl,⟨nd,rfl⟩⟩;refine ⟨_,rfl,?_⟩))
  go_ret
  exact ⟨by first|rfl|(simp [errW_none,errW_some] <;> rfl)|(simp [*,errW_none,errW_some] <;> rfl),by repeat (first|(with_reducible first|exact HB.out|apply below_alloc|apply pw_below_drewN|apply below_drew1|refine below_set ?_ GE276.out)|exact HB.out)⟩
 ·rw [if_neg c4] at H
  have c4b0 : decide (t277 < 0)=false:=decide_eq_false c4
  clear c4
  obtain rfl:=Option.some.inj H
  go_enter Try.func30,Try.ntmps30
  go_wp2_with (first|((with_reducible refine gate_dst (N:=2) rfl ?_);refine box_event ?hg (N:=2) ?hd (cs:=#[.bool a0_0,.bool a0_1,.int .i64 a0_2,.int .i64 a0_3,.int .i64 a0_4,.slice A0_5 l0_5.length c0_5]) (t:=39) ?hr ?_;(case hd=>rfl);(case hg=>rfl);(case hr=>first|(go_simp;done)|(go_simp;rfl));intro gb276 hg w7 hbox hb;have n0_:=Aside0.mk (below_step (by repeat (first|(with_reducible first|exact HB.out|apply below_alloc|apply pw_below_drewN|apply below_drew1)|exact HB.out)) hb);have n1_:=Aside0.mk (hbox);have n2_:=Aside0.mk ((by rw [hg];exact (below_size (by repeat (first|(with_reducible first|exact HB.out|apply below_alloc|apply pw_below_drewN|apply below_drew1)|exact HB.out))) : w.heap.size ≤ gb276));have n3_:=Aside0.mk ((by rw [hg];exact (below_size (by repeat (first|(with_reducible first|exact HB.out|apply below_alloc|apply pw_below_drewN|apply below_drew1)|exact HB.out))) : w.heap.size ≤ gb276));clear HB;have HB:=n0_;have BK276:=n1_;have GW276:=n2_;have GE276:=n3_;clear n0_ n1_ n2_ n3_;clear hb hbox hg;have hcz8_0 : w7.cell? ⟨gb276,0,none⟩ = some (.bool a0_0):=(blk_cell BK276.out 0).trans rfl;have hcz8_1 : w7.cell? ⟨gb276,1,none⟩ = some (.bool a0_1):=(blk_cell BK276.out 1).trans rfl;have hcz8_2 : w7.cell? ⟨gb276,2,none⟩ = some (.int .i64 a0_2):=(blk_cell BK276.out 2).trans rfl;have hcz8_3 : w7.cell? ⟨gb276,3,none⟩ = some (.int .i64 a0_3):=(blk_cell BK276.out 3).trans rfl;have hcz8_4 : w7.cell? ⟨gb276,4,none⟩ = some (.int .i64 a0_4):=(blk_cell BK276.out 4).trans rfl;have hcz8_5 : w7.cell? ⟨gb276,5,none⟩ = some (.slice A0_5 l0_5.length c0_5):=(blk_cell BK276.out 5).trans rfl;have hfz8_0:=blk_frozen BK276.out 0;have hfz8_1:=blk_frozen BK276.out 1;have hfz8_2:=blk_frozen BK276.out 2;have hfz8_3:=blk_frozen BK276.out 3;have hfz8_4:=blk_frozen BK276.out 4;have hfz8_5:=blk_frozen BK276.out 5)|((with_reducible refine gate_callee (f:=66) rfl ?_);refine goesL_ (some 8) rfl rfl Try.func66 (by kernel_rfl) rfl #[.slice A0_5 l0_5.length c0_5,.int .i64 a1] rfl (by (try simp only [List.map_toArray,List.map_cons,List.map_nil]);first|done|rfl|(simp only [List.length_drop,List.length_take];rfl)) ?_;(with_reducible refine (laws_heldRecordS.calls k _ _ l0_5 a1 t277 _ ?side1 ?side2 A3.out).mono ?_);(case side1=>repeat (first|exact (Kd.C_below HR0_5.out HB.out)|(with_reducible refine Kd.C_alloc ?_ _)|(with_reducible refine Kd.C_drewN ?_ _)|(with_reducible refine Kd.C_drew ?_)));(case side2=>exact HC0_5.out);rintro e w' ⟨rfl,⟨nd,rfl⟩⟩;refine ⟨_,rfl,?_⟩))
  go_ret
  exact ⟨by first|rfl|(simp [errW_none,errW_some] <;> rfl)|(simp [*,errW_none,errW_some] <;> rfl),by repeat (first|(with_reducible first|exact HB.out|apply below_alloc|apply pw_below_drewN|apply below_drew1|refine below_set ?_ GE276.out)|exact HB.out)⟩

-- NOT PRINTED: function 5 (laws_FnExactOldTurn)

end Go.Proofs.Ytmpnedpokdaejaa.QFnExactOldTurn
