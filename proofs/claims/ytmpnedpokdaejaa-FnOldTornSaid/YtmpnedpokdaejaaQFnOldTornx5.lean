-- Written by this session's program wip/ownprint.py.
import Derived.Test.YtmpnedpokdaejaaQFnOldTornx0
namespace Go.Proofs.Ytmpnedpokdaejaa.QFnOldTorn
open Go.RowKit Go.Proofs.YtmpnedpokdaejaaW.PrintWords Go.Proofs.YtmpnedpokdaejaaW.PrintLast Go.Proofs.YtmpnedpokdaejaaW.PrintMore
attribute [local go_sem] max2_int min2_int max_two min_two max_three min_three max_four min_four   -- for this text's walks alone
set_option linter.unusedVariables false
set_option linter.unusedSimpArgs false

/-! ### slices_Equal_int_int: function 53 -/
def slices_Equal_int_int.l0 : Nat→List Int→List Int→Int→Int→Option (Bool)
 | 0,_,_,_,_=>none
 | k + 1,x0,x1,x12,x13=>if x13 < x12 then (if 0 ≤ x13 then (if x13 < (x0.length : Int) then (if x13 < (x1.length : Int) then (if (rd x0 x13)=(rd x1 x13) then (slices_Equal_int_int.l0 k x0 x1 x12 (wrap64 (x13 + 1))) else (some false)) else (none)) else (none)) else (none)) else (some true)
def slices_Equal_int_int.f (k : Nat) (l0 : List Int) (l1 : List Int) : Option (Bool):=if (l0.length : Int)=(l1.length : Int) then (slices_Equal_int_int.l0 k l0 l1 (l0.length : Int) 0) else (some false)
theorem slices_Equal_int_int.mono_l : ∀ k,(∀ y0 y1 y2 y3,LeO (slices_Equal_int_int.l0 k y0 y1 y2 y3) (slices_Equal_int_int.l0 (k + 1) y0 y1 y2 y3))
 | 0=>fun _ _ _ _ r h=>by simp [slices_Equal_int_int.l0] at h
 | k + 1=>by
  have ih0:=slices_Equal_int_int.mono_l k
  ·intro y0 y1 y2 y3
   unfold slices_Equal_int_int.l0
   repeat' first
   | (with_reducible exact ih0 _ _ _ _)
   | (with_reducible exact LeO.refl _)
   | (with_reducible exact LeO.none _)
   | (with_reducible refine LeO.ite ?_ ?_)
   | (with_reducible refine LeO.bind ?_ (fun _=>?_))
   | exact ih0 _ _ _ _
   | exact LeO.none _
   | refine LeO.ite ?_ ?_
   | refine LeO.bind ?_ (fun _=>?_)
theorem slices_Equal_int_int.mono : ∀ a0 a1 k,LeO (slices_Equal_int_int.f k a0 a1) (slices_Equal_int_int.f (k + 1) a0 a1):=by
 intro a0 a1 k
 have ih0:=slices_Equal_int_int.mono_l k
 unfold slices_Equal_int_int.f
 repeat' first
   | (with_reducible exact ih0 _ _ _ _)
   | (with_reducible exact LeO.refl _)
   | (with_reducible exact LeO.none _)
   | (with_reducible refine LeO.ite ?_ ?_)
   | (with_reducible refine LeO.bind ?_ (fun _=>?_))
   | exact ih0 _ _ _ _
   | exact LeO.none _
   | refine LeO.ite ?_ ?_
   | refine LeO.bind ?_ (fun _=>?_)
set_option maxHeartbeats 8000000 in
set_option maxRecDepth 100000 in
theorem slices_Equal_int_int.calls (k : Nat) (A0 : Option Addr) (c0 : Nat) (l0 : List Int) (A1 : Option Addr) (c1 : Nat) (l1 : List Int) (r : Bool) (w : World) (hr0 : Kd.C (Kd.int .i64) w A0 l0.length l0) (hc0 : l0.length ≤ c0) (hr1 : Kd.C (Kd.int .i64) w A1 l1.length l1) (hc1 : l1.length ≤ c1) (h : slices_Equal_int_int.f k l0 l1=some r) :
  Calls Try.prog 53 #[.slice A0 l0.length c0,.slice A1 l1.length c1] w fun e w'=>e = .returned (.bool r)∧Drawn0 w w':=by
 have HR0:=Aside0.mk hr0
 have HC0:=Aside0.mk hc0
 clear hr0 hc0
 have HR1:=Aside0.mk hr1
 have HC1:=Aside0.mk hc1
 clear hr1 hc1
 have H : (if (l0.length : Int)=(l1.length : Int) then (slices_Equal_int_int.l0 k l0 l1 (l0.length : Int) 0) else (some false))=some r:=h
 clear h
 by_cases c3 : (l0.length : Int)=(l1.length : Int)
 ·rw [if_pos c3] at H
  have c3b0 : ((l0.length : Int) == (l1.length : Int))=true:=beq_iff_eq.mpr c3
  have c3b1 : ((l0.length : Int) != (l1.length : Int))=false:=bne_eq_false_iff_eq.mpr c3
  have c3b2 : (l0.length == l1.length)=true:=by first|simpa using c3|(simp at c3 ⊢;omega)
  clear c3
  have H':=Aside0.mk H
  clear H
  go_enter Try.func53,Try.ntmps53
  go_wp2
  repeat (go_quiet (fail);try go_wp2)
  go_loopg [13] k (fun kq v13 w'=>∃ (x13_1 : Int),v13 = .int .i64 x13_1∧Aside0 (slices_Equal_int_int.l0 kq l0 l1 (l0.length : Int) x13_1=some r)∧Aside0 (kq ≤ k)∧Drawn0 w w')
  case atStart=>exact ⟨(0),(by first|rfl|(simp;done)|(simp [*];done)),H',⟨Nat.le_refl _⟩,by repeat (first|exact Drawn0.refl _|apply Drawn0.step)⟩
  case round =>
   clear H'
   try clear c1
   try clear p2
   try clear c3
   try clear c3b0
   try clear c3b1
   try clear c3b2
   obtain ⟨x13_1,rfl,HA,HK1,⟨m1,rfl⟩⟩:=hrel
   cases gk with
   | zero=>exact absurd HA.out (by simp [slices_Equal_int_int.l0])
   | succ k1 =>
    have H:=HA.out
    clear HA
    simp only [slices_Equal_int_int.l0] at H
    by_cases c4 : x13_1 < (l0.length : Int)
    ·rw [if_pos c4] at H
     have c4b0 : decide (x13_1 < (l0.length : Int))=true:=decide_eq_true c4
     clear c4
     by_cases c5 : 0 ≤ x13_1
     ·rw [if_pos c5] at H
      have c5b0 : decide (0 ≤ x13_1)=true:=decide_eq_true c5
      clear c5
      by_cases c6 : x13_1 < (l0.length : Int)
      ·rw [if_pos c6] at H
       have c6b0 : decide (x13_1 < (l0.length : Int))=true:=decide_eq_true c6
       clear c6
       by_cases c7 : x13_1 < (l1.length : Int)
       ·rw [if_pos c7] at H
        have c7b0 : decide (x13_1 < (l1.length : Int))=true:=decide_eq_true c7
        clear c7
        by_cases c8 : (rd l0 x13_1)=(rd l1 x13_1)
        ·rw [if_pos c8] at H
         have c8b0 : ((rd l0 x13_1) == (rd l1 x13_1))=true:=beq_iff_eq.mpr c8
         have c8b1 : ((rd l0 x13_1) != (rd l1 x13_1))=false:=bne_eq_false_iff_eq.mpr c8
         clear c8
         have H':=Aside0.mk H
         clear H
         have p320 : 0 ≤ (x13_1 : Int):=of_decide_eq_true (by first|(with_reducible assumption)|assumption)
         have q320 : x13_1 < (l0.length : Int):=of_decide_eq_true (by first|(with_reducible assumption)|assumption)
         obtain ⟨ad320,e320,hx320_0⟩:=Kd.at_int HR0.out x13_1 p320 q320
         cases e320
         replace p320:=eq_true p320
         replace q320:=eq_true q320
         have p321 : 0 ≤ (x13_1 : Int):=of_decide_eq_true (by first|(with_reducible assumption)|assumption)
         have q321 : x13_1 < (l1.length : Int):=of_decide_eq_true (by first|(with_reducible assumption)|assumption)
         obtain ⟨ad321,e321,hx321_0⟩:=Kd.at_int HR1.out x13_1 p321 q321
         cases e321
         replace p321:=eq_true p321
         replace q321:=eq_true q321
         go_wp2
         repeat (go_quiet (fail);try go_wp2)
         go_roundg k1
         case measure=>have:=HK1.out;omega
         case rel=>exact ⟨(wrap64 (x13_1 + 1)),(by first|rfl|(simp;done)|(simp [*];done)),H',⟨by have:=HK1.out;omega⟩,by repeat (first|exact Drawn0.refl _|apply Drawn0.step)⟩
        ·rw [if_neg c8] at H
         have c8b0 : ((rd l0 x13_1) == (rd l1 x13_1))=false:=beq_eq_false_iff_ne.mpr c8
         have c8b1 : ((rd l0 x13_1) != (rd l1 x13_1))=true:=bne_iff_ne.mpr c8
         obtain rfl:=Option.some.inj H
         have p320 : 0 ≤ (x13_1 : Int):=of_decide_eq_true (by first|(with_reducible assumption)|assumption)
         have q320 : x13_1 < (l0.length : Int):=of_decide_eq_true (by first|(with_reducible assumption)|assumption)
         obtain ⟨ad320,e320,hx320_0⟩:=Kd.at_int HR0.out x13_1 p320 q320
         cases e320
         replace p320:=eq_true p320
         replace q320:=eq_true q320
         have p321 : 0 ≤ (x13_1 : Int):=of_decide_eq_true (by first|(with_reducible assumption)|assumption)
         have q321 : x13_1 < (l1.length : Int):=of_decide_eq_true (by first|(with_reducible assumption)|assumption)
         obtain ⟨ad321,e321,hx321_0⟩:=Kd.at_int HR1.out x13_1 p321 q321
         cases e321
         replace p321:=eq_true p321
         replace q321:=eq_true q321
         go_wp2
         repeat (go_quiet (fail);try go_wp2)
         go_ret
         exact ⟨by first|rfl|(simp;done)|(simp [*];done),by repeat (first|exact Drawn0.refl _|apply Drawn0.step)⟩
       ·rw [if_neg c7] at H
        exact absurd H (by simp)
      ·rw [if_neg c6] at H
       exact absurd H (by simp)
     ·rw [if_neg c5] at H
      exact absurd H (by simp)
    ·rw [if_neg c4] at H
     have c4b0 : decide (x13_1 < (l0.length : Int))=false:=decide_eq_false c4
     clear c4
     obtain rfl:=Option.some.inj H
     go_wp2
     repeat (go_quiet (fail);try go_wp2)
     go_ret
     exact ⟨by first|rfl|(simp;done)|(simp [*];done),by repeat (first|exact Drawn0.refl _|apply Drawn0.step)⟩
 ·rw [if_neg c3] at H
  have c3b0 : ((l0.length : Int) == (l1.length : Int))=false:=beq_eq_false_iff_ne.mpr c3
  have c3b1 : ((l0.length : Int) != (l1.length : Int))=true:=bne_iff_ne.mpr c3
  have c3b2 : (l0.length == l1.length)=false:=by first|simpa using c3|(simp at c3 ⊢;omega)
  obtain rfl:=Option.some.inj H
  go_enter Try.func53,Try.ntmps53
  go_wp2
  repeat (go_quiet (fail);try go_wp2)
  go_ret
  exact ⟨by first|rfl|(simp;done)|(simp [*];done),by repeat (first|exact Drawn0.refl _|apply Drawn0.step)⟩

/-! ### impl_intOf: function 76 -/
def impl_intOf.l0 : Nat→Int→Int→List Int→Int→Int→Option (List Int)
 | 0,_,_,_,_,_=>none
 | k + 1,x0,x1,x5,x10,x11=>if x11 < x10 then (if 0 ≤ (wrap64 (8 * x11)) then (if 0 ≤ (wrap64 ((wrap64 (x1 - 1)) - x11)) then (if (wrap64 ((wrap64 (x1 - 1)) - x11)) < (x5.length : Int) then (impl_intOf.l0 k x0 x1 (x5.set ((wrap64 ((wrap64 (x1 - 1)) - x11)) : Int).toNat (Go.bits .and .i64 (shr .i64 x0 (wrap64 (8 * x11))) 255)) x10 (wrap64 (x11 + 1))) else (none)) else (none)) else (none)) else (some x5)
def impl_intOf.f (k : Nat) (a0 : Int) (a1 : Int) : Option (List Int):=if 0 ≤ a1 then (if (a1 : Int).toNat ≤ 35184372088832 then ((some (List.replicate (a1 : Int).toNat 0 : List Int)).bind fun y322=>(impl_intOf.l0 k a0 a1 y322 (y322.length : Int) 0)) else (none)) else (none)
theorem impl_intOf.mono_l : ∀ k,(∀ y0 y1 y2 y3 y4,LeO (impl_intOf.l0 k y0 y1 y2 y3 y4) (impl_intOf.l0 (k + 1) y0 y1 y2 y3 y4))
 | 0=>fun _ _ _ _ _ r h=>by simp [impl_intOf.l0] at h
 | k + 1=>by
  have ih0:=impl_intOf.mono_l k
  ·intro y0 y1 y2 y3 y4
   unfold impl_intOf.l0
   repeat' first
   | (with_reducible exact ih0 _ _ _ _ _)
   | (with_reducible exact LeO.refl _)
   | (with_reducible exact LeO.none _)
   | (with_reducible refine LeO.ite ?_ ?_)
   | (with_reducible refine LeO.bind ?_ (fun _=>?_))
   | exact ih0 _ _ _ _ _
   | exact LeO.none _
   | refine LeO.ite ?_ ?_
   | refine LeO.bind ?_ (fun _=>?_)
theorem impl_intOf.mono : ∀ a0 a1 k,LeO (impl_intOf.f k a0 a1) (impl_intOf.f (k + 1) a0 a1):=by
 intro a0 a1 k
 have ih0:=impl_intOf.mono_l k
 unfold impl_intOf.f
 repeat' first
   | (with_reducible exact ih0 _ _ _ _ _)
   | (with_reducible exact LeO.refl _)
   | (with_reducible exact LeO.none _)
   | (with_reducible refine LeO.ite ?_ ?_)
   | (with_reducible refine LeO.bind ?_ (fun _=>?_))
   | exact ih0 _ _ _ _ _
   | exact LeO.none _
   | refine LeO.ite ?_ ?_
   | refine LeO.bind ?_ (fun _=>?_)
set_option maxHeartbeats 8000000 in
set_option maxRecDepth 100000 in
theorem impl_intOf.calls (k : Nat) (a0 : Int) (a1 : Int) (r : List Int) (w : World) (h : impl_intOf.f k a0 a1=some r) :
  Calls Try.prog 76 #[.int .i64 a0,.int .i64 a1] w fun e w'=>∃ v0_ : Value,e = .returned (v0_)∧Kd.R (Kd.int .i64) 3 w' w.heap.size (fun _=>True) v0_ r∧Below w.heap.size w w':=by
 have HB:=Aside0.mk (Below.refl w.heap.size w)
 have H : (if 0 ≤ a1 then (if (a1 : Int).toNat ≤ 35184372088832 then ((some (List.replicate (a1 : Int).toNat 0 : List Int)).bind fun y322=>(impl_intOf.l0 k a0 a1 y322 (y322.length : Int) 0)) else (none)) else (none))=some r:=h
 clear h
 by_cases c3 : 0 ≤ a1
 ·rw [if_pos c3] at H
  have c3b0:=eq_true c3
  have c3b1 : decide (0 ≤ a1)=true:=decide_eq_true c3
  clear c3
  by_cases c4 : (a1 : Int).toNat ≤ 35184372088832
  ·rw [if_pos c4] at H
   have c4b0:=eq_true c4
   have c4b1 : decide ((a1 : Int).toNat ≤ 35184372088832)=true:=decide_eq_true c4
   clear c4
   obtain ⟨y322,hy322⟩ : ∃ y_ : List Int,y_=(List.replicate (a1 : Int).toNat 0):=⟨_,rfl⟩
   replace H : (impl_intOf.l0 k a0 a1 y322 (y322.length : Int) 0)=some r:=by first|(rw [hy322];with_reducible exact H)|(have H2_:=(Option.bind_some _ _).symm.trans H;rw [hy322];with_reducible exact H2_)|(have H2_:=(Option.bind_some _ _).symm.trans H;with_reducible exact H2_)|with_reducible exact H|(rw [hy322];exact H)|exact H
   have Ny322:=Aside0.mk hy322
   clear hy322
   have H':=Aside0.mk H
   clear H
   go_enter Try.func76,Try.ntmps76
   go_wp2_with (first|((with_reducible refine gate_dst (N:=8) rfl ?_);refine Kd.R_make (Kd.int .i64) _ 3 rfl (N:=8) rfl 23 _ _ rfl a1 rfl rfl Try.underlying23 (.int .i64 0) 8 info3 rfl (by decide) (by omega) 0 (ok:=fun _=>True) (okp:=fun _=>True) rfl (fun _ hk=>hk) trivial (of_decide_eq_true (by first|(with_reducible assumption)|assumption)) (Nat.le_trans (Nat.mul_le_mul_right _ (of_decide_eq_true (by first|(with_reducible assumption)|assumption) : a1.toNat ≤ 35184372088832)) (by omega)) (Below.refl _ _) (Nat.le_refl _) ?_;intro v323 w5 ho6 hb hg_ hnew_;clear hg_ hnew_;(first|rw [← Ny322.out] at ho6|(simp only [Int.reduceToNat] at ho6;rw [← Ny322.out] at ho6));have n0_:=Aside0.mk (Kd.R_lower ho6 (below_size (by repeat (first|(with_reducible first|exact HB.out|apply below_alloc|apply pw_below_drewN|apply below_drew1)|exact HB.out))));have n1_:=Aside0.mk (below_step (by repeat (first|(with_reducible first|exact HB.out|apply below_alloc|apply pw_below_drewN|apply below_drew1)|exact HB.out)) hb);clear HB;have HO324:=n0_;have HB:=n1_;clear n0_ n1_;clear hb ho6;obtain ⟨Ao7,co7,eo7⟩:=Kd.R_slice HO324.out;subst eo7))
   go_loopg [11] k (fun kq v11 w'=>∃ (x5_1 : List Int) (x11_1 : Int),v11 = .int .i64 x11_1∧Aside0 (impl_intOf.l0 kq a0 a1 x5_1 (y322.length : Int) x11_1=some r)∧Aside0 (kq ≤ k)∧Aside0 (Kd.R (Kd.int .i64) 3 w' w.heap.size (fun _=>True) (.slice Ao7 y322.length co7) x5_1)∧Aside0 (Below w.heap.size w w'))
   case atStart=>exact ⟨(y322),(0),(by first|rfl|(simp;done)|(simp [*];done)),H',⟨Nat.le_refl _⟩,⟨by (with_reducible repeat (first|apply Kd.R_alloc|apply Kd.R_drewN|apply Kd.R_drew));exact HO324.out⟩,⟨by repeat (first|(with_reducible first|exact HB.out|apply below_alloc|apply pw_below_drewN|apply below_drew1)|exact HB.out)⟩⟩
   case round =>
    clear H'
    try clear p2
    try clear c3
    try clear c3b0
    try clear c3b1
    try clear c4
    try clear c4b0
    try clear c4b1
    try clear c7
    obtain ⟨x5_1,x11_1,rfl,HA,HK1,HO_5,HB⟩:=hrel
    have hl5_1:=(Kd.R_reads' HO_5.out).1
    rw [hl5_1] at HO_5
    (try simp only [hl5_1])
    cases gk with
    | zero=>exact absurd HA.out (by simp [impl_intOf.l0])
    | succ k1 =>
     have H:=HA.out
     clear HA
     simp only [impl_intOf.l0] at H
     by_cases c8 : x11_1 < (y322.length : Int)
     ·rw [if_pos c8] at H
      have c8b0 : decide (x11_1 < (y322.length : Int))=true:=decide_eq_true c8
      (try (have c8b0_x:=c8b0;rw [hl5_1] at c8b0_x))
      clear c8
      obtain ⟨ji9,hji9⟩ : ∃ j_ : Int,(wrap64 (8 * x11_1))=j_:=⟨_,rfl⟩
      replace H : (if 0 ≤ (ji9) then (if 0 ≤ (wrap64 ((wrap64 (a1 - 1)) - x11_1)) then (if (wrap64 ((wrap64 (a1 - 1)) - x11_1)) < (x5_1.length : Int) then (impl_intOf.l0 k1 a0 a1 (x5_1.set ((wrap64 ((wrap64 (a1 - 1)) - x11_1)) : Int).toNat (Go.bits .and .i64 (shr .i64 a0 (ji9)) 255)) (y322.length : Int) (wrap64 (x11_1 + 1))) else (none)) else (none)) else (none))=some r:=by first|(rw [hji9] at H;exact H)|(simp only [hji9] at H ⊢;exact H)
      have hji9w : (IntKind.i64.wrap (8 * x11_1))=ji9:=(i64_w _).trans hji9
      by_cases c10 : 0 ≤ (ji9)
      ·rw [if_pos c10] at H
       have c10b0:=eq_true c10
       have c10b1 : decide (0 ≤ (ji9))=true:=decide_eq_true c10
       clear c10
       obtain ⟨ji11,hji11⟩ : ∃ j_ : Int,(shr .i64 a0 (ji9))=j_:=⟨_,rfl⟩
       replace H : (if 0 ≤ (wrap64 ((wrap64 (a1 - 1)) - x11_1)) then (if (wrap64 ((wrap64 (a1 - 1)) - x11_1)) < (x5_1.length : Int) then (impl_intOf.l0 k1 a0 a1 (x5_1.set ((wrap64 ((wrap64 (a1 - 1)) - x11_1)) : Int).toNat (Go.bits .and .i64 (ji11) 255)) (y322.length : Int) (wrap64 (x11_1 + 1))) else (none)) else (none))=some r:=by first|(rw [hji11] at H;exact H)|(simp only [hji11] at H ⊢;exact H)
       have hji11_ : (a0 / 2 ^ min (ji9).toNat 64)=ji11:=hji11
       have hji11z : (ji9) ≤ 64→(a0 / 2 ^ (ji9).toNat)=ji11:=shr_small hji11
       obtain ⟨ji12,hji12⟩ : ∃ j_ : Int,(wrap64 ((wrap64 (a1 - 1)) - x11_1))=j_:=⟨_,rfl⟩
       replace H : (if 0 ≤ (ji12) then (if (ji12) < (x5_1.length : Int) then (impl_intOf.l0 k1 a0 a1 (x5_1.set ((ji12) : Int).toNat (Go.bits .and .i64 (ji11) 255)) (y322.length : Int) (wrap64 (x11_1 + 1))) else (none)) else (none))=some r:=by first|(rw [hji12] at H;exact H)|(simp only [hji12] at H ⊢;exact H)
       have hji12w : (IntKind.i64.wrap ((wrap64 (a1 - 1)) - x11_1))=ji12:=(i64_w _).trans hji12
       by_cases c13 : 0 ≤ (ji12)
       ·rw [if_pos c13] at H
        have c13b0 : decide (0 ≤ (ji12))=true:=decide_eq_true c13
        clear c13
        by_cases c14 : (ji12) < (x5_1.length : Int)
        ·rw [if_pos c14] at H
         have c14b0 : decide ((ji12) < (x5_1.length : Int))=true:=decide_eq_true c14
         (try (have c14b0_x:=c14b0;rw [hl5_1] at c14b0_x))
         clear c14
         obtain ⟨y325,hy325⟩ : ∃ y_ : List Int,y_=(x5_1.set ((ji12) : Int).toNat (Go.bits .and .i64 (ji11) 255)):=⟨_,rfl⟩
         replace H : (impl_intOf.l0 k1 a0 a1 y325 (y322.length : Int) (wrap64 (x11_1 + 1)))=some r:=by first|(rw [hy325];with_reducible exact H)|(have H2_:=(Option.bind_some _ _).symm.trans H;rw [hy325];with_reducible exact H2_)|(have H2_:=(Option.bind_some _ _).symm.trans H;with_reducible exact H2_)|with_reducible exact H|(rw [hy325];exact H)|exact H
         have Ny325:=Aside0.mk hy325
         clear hy325
         have H':=Aside0.mk H
         clear H
         have p15 : 0 ≤ ((ji12) : Int):=of_decide_eq_true (by first|(with_reducible assumption)|assumption)
         have q15 : ((ji12) : Int) < ((x5_1.length : Int) : Int):=of_decide_eq_true (by first|(with_reducible assumption)|assumption)
         obtain ⟨go15,co15,eo15,gb15,gl15,cl15,HG15⟩:=Kd.R_form HO_5.out (by omega)
         (first|cases eo15|(injection eo15 with ea_ en_ ec_;(first|subst ea_|(injection ea_ with ea_;subst ea_));subst ec_;clear en_))
         have GB15:=Aside0.mk gb15
         have GG15:=Aside0.mk HG15
         clear gb15 gl15 HG15
         obtain ⟨hx15_0,hf15_0⟩:=Kd.R_celln 0 HO_5.out ((ji12) : Int) p15 q15
         replace p15:=eq_true p15
         replace q15:=eq_true q15
         have HP16:=Kd.R_putg HO_5.out ((ji12) : Int) (Go.bits .and .i64 (ji11) 255)
         go_wp2_with (first|((with_reducible refine gate_store (t:=3) (p:=24) rfl ?_);refine store_event (t:=3) (p:=24) (v:=?vo_w17) (w1:=(wr.setCell ⟨go15,((ji12) : Int).toNat,none⟩ (.int .i64 (Go.bits .and .i64 (ji11) 255)))) ?hg ?ho ?hn ?hr ?_;(case ho=>rfl);(case hg=>rfl);(case hn=>rfl);(case hr=>first|(go_simp;done)|(go_simp;rfl));intro w17 hw;have hg : wr.grownBy w17 (some go15):=(by rw [hw];exact HP16.2);have hp_ : Kd.R (Kd.int .i64) 3 w17 w.heap.size (fun _=>True) (.slice (some ⟨go15,0,none⟩) x5_1.length co7) y325:=(by rw [hw,Ny325.out];exact HP16.1);clear HP16;have n0_:=Aside0.mk (hp_);have n1_:=Aside0.mk ((by rw [hw];exact below_set (HB.out) GB15.out : Below w.heap.size w w17));clear HO_5;clear HB;have HO_5:=n0_;have HB:=n1_;clear n0_ n1_;clear hg hw hp_))
         (try simp only [← hl5_1])
         go_roundg k1
         case measure=>have:=HK1.out;omega
         case rel=>exact ⟨(y325),(wrap64 (x11_1 + 1)),(by first|rfl|(simp;done)|(simp [*];done)),H',⟨by have:=HK1.out;omega⟩,⟨by (try simp only [hl5_1]);(with_reducible repeat (first|apply Kd.R_alloc|apply Kd.R_drewN|apply Kd.R_drew));exact HO_5.out⟩,⟨by repeat (first|(with_reducible first|exact HB.out|apply below_alloc|apply pw_below_drewN|apply below_drew1)|exact HB.out)⟩⟩
        ·rw [if_neg c14] at H
         exact absurd H (by simp)
       ·rw [if_neg c13] at H
        exact absurd H (by simp)
      ·rw [if_neg c10] at H
       exact absurd H (by simp)
     ·rw [if_neg c8] at H
      have c8b0 : decide (x11_1 < (y322.length : Int))=false:=decide_eq_false c8
      (try (have c8b0_x:=c8b0;rw [hl5_1] at c8b0_x))
      clear c8
      obtain rfl:=Option.some.inj H
      go_wp2
      go_ret
      exact ⟨_,by first|rfl|(simp [errW_none,errW_some] <;> rfl)|(simp [*,errW_none,errW_some] <;> rfl),by (with_reducible repeat (first|apply Kd.R_alloc|apply Kd.R_drewN|apply Kd.R_drew));exact HO_5.out,by repeat (first|(with_reducible first|exact HB.out|apply below_alloc|apply pw_below_drewN|apply below_drew1)|exact HB.out)⟩
  ·rw [if_neg c4] at H
   exact absurd H (by simp)
 ·rw [if_neg c3] at H
  exact absurd H (by simp)

/-! ### impl_oldPart: function 77 -/
def impl_oldPart.f (a0 : Bool) (l1 : List Int) : Option (List Int):=if a0=true then ((some (([(l1.length : Int)] : List Int) : List Int)).bind fun y326=>(if y326.length + l1.length < 17592186044416 then (some (y326 ++ l1)) else (none))) else (some (([255] : List Int)))
set_option maxHeartbeats 8000000 in
set_option maxRecDepth 100000 in
theorem impl_oldPart.calls (a0 : Bool) (A1 : Option Addr) (c1 : Nat) (l1 : List Int) (r : List Int) (w : World) (hr1 : Kd.C (Kd.int .i64) w A1 l1.length l1) (hc1 : l1.length ≤ c1) (h : impl_oldPart.f a0 l1=some r) :
  Calls Try.prog 77 #[.bool a0,.slice A1 l1.length c1] w fun e w'=>∃ v0_ : Value,e = .returned (v0_)∧Kd.R (Kd.int .i64) 3 w' w.heap.size (fun _=>True) v0_ r∧Below w.heap.size w w':=by
 have HR1:=Aside0.mk hr1
 have HC1:=Aside0.mk hc1
 clear hr1 hc1
 have HB:=Aside0.mk (Below.refl w.heap.size w)
 have H : (if a0=true then ((some (([(l1.length : Int)] : List Int) : List Int)).bind fun y326=>(if y326.length + l1.length < 17592186044416 then (some (y326 ++ l1)) else (none))) else (some (([255] : List Int))))=some r:=h
 clear h
 by_cases c3 : a0=true
 ·subst c3
  have H1 : ((some (([(l1.length : Int)] : List Int) : List Int)).bind fun y326=>(if y326.length + l1.length < 17592186044416 then (some (y326 ++ l1)) else (none)))=some r:=by rw [if_pos rfl] at H;exact H
  clear H
  have H:=H1
  clear H1
  obtain ⟨y326,hy326⟩ : ∃ y_ : List Int,y_=(([(l1.length : Int)] : List Int)):=⟨_,rfl⟩
  replace H : (if y326.length + l1.length < 17592186044416 then (some (y326 ++ l1)) else (none))=some r:=by first|(rw [hy326];with_reducible exact H)|(have H2_:=(Option.bind_some _ _).symm.trans H;rw [hy326];with_reducible exact H2_)|(have H2_:=(Option.bind_some _ _).symm.trans H;with_reducible exact H2_)|with_reducible exact H|(rw [hy326];exact H)|exact H
  have Ny326:=Aside0.mk hy326
  clear hy326
  by_cases c4 : y326.length + l1.length < 17592186044416
  ·rw [if_pos c4] at H
   have LMc4:=Aside0.mk c4
   clear c4
   obtain ⟨y329,hy329⟩ : ∃ y_ : List Int,y_=(y326 ++ l1):=⟨_,rfl⟩
   replace H : (some y329)=some r:=by first|(rw [hy329];with_reducible exact H)|(have H2_:=(Option.bind_some _ _).symm.trans H;rw [hy329];with_reducible exact H2_)|(have H2_:=(Option.bind_some _ _).symm.trans H;with_reducible exact H2_)|with_reducible exact H|(rw [hy329];exact H)|exact H
   have Ny329:=Aside0.mk hy329
   clear hy329
   obtain rfl:=Option.some.inj H
   go_enter Try.func77,Try.ntmps77
   go_wp2_with (first|((with_reducible refine gate_dst (N:=10) rfl ?_);refine Kd.R_lit (Kd.int .i64) _ 3 ?hg (N:=10) ?hd (xs:=([(l1.length : Int)] : List Int)) (inner:=[.int .i64 (l1.length : Int)]) (ok:=fun _=>True) (okp:=fun _=>True) ?hr ?hp (fun _ hk=>hk) trivial (Below.refl _ _) (Nat.le_refl _) (by simp) ?_;(case hd=>rfl);(case hg=>rfl);(case hr=>first|(go_simp;done)|(go_simp;rfl));(case hp=>exact (Reps.one (show Kd.M (Kd.int .i64) _ _ _ (l1.length : Int) [.int .i64 (l1.length : Int)] from rfl) (Reps.none _ _)));intro v327 w5 ho6 hb hg_ hnew_;clear hg_ hnew_;(first|rw [← Ny326.out] at ho6|(simp only [Int.reduceToNat] at ho6;rw [← Ny326.out] at ho6));have n0_:=Aside0.mk (Kd.R_lower ho6 (below_size (by repeat (first|(with_reducible first|exact HB.out|apply below_alloc|apply pw_below_drewN|apply below_drew1)|exact HB.out))));have n1_:=Aside0.mk (below_step (by repeat (first|(with_reducible first|exact HB.out|apply below_alloc|apply pw_below_drewN|apply below_drew1)|exact HB.out)) hb);clear HB;have HO328:=n0_;have HB:=n1_;clear n0_ n1_;clear hb ho6)|((with_reducible refine gate_builtin (b:=.append) (xs:=#[.tmp 10,.tmp 11]) rfl ?_);at_builtin;refine Kd.R_append_rows (Kd.int .i64) (w0:=w) w.heap.size rfl (.tmp 10) (.tmp 11) 23 3 (.int .i64 0) 8 rfl Try.underlying23 info3 rfl (by decide) (by omega) v327 y326 l1 _ _ _ (fun _=>True) (fun _=>False) rfl rfl ?aO ?aR (fun _ _ h=>h) (fun _ h=>h.elim) ?aF ?aB ?aS ?aL ?_;(case aR=>repeat (first|exact (Kd.C_below HR1.out HB.out)|(with_reducible refine Kd.C_alloc ?_ _)|(with_reducible refine Kd.C_drewN ?_ _)|(with_reducible refine Kd.C_drew ?_)));(case aB=>exact (by repeat (first|(with_reducible first|exact HB.out|apply below_alloc|apply pw_below_drewN|apply below_drew1)|exact HB.out)));(case aF=>exact (fun _ _=>trivial));(case aO=>exact (by (with_reducible repeat (first|apply Kd.R_alloc|apply Kd.R_drewN|apply Kd.R_drew));exact HO328.out));(case aS=>exact (below_size (by repeat (first|(with_reducible first|exact HB.out|apply below_alloc|apply pw_below_drewN|apply below_drew1)|exact HB.out))));(case aL=>have:=LMc4.out;omega);intro v330 w7 ho hb hg hat;rw [← Ny329.out] at ho;have n0_:=Aside0.mk (hb);have n1_:=Aside0.mk (ho);clear HB;clear HO328;have HB:=n0_;have HO331:=n1_;clear n0_ n1_;clear ho hb hg hat))
   go_ret
   exact ⟨_,by first|rfl|(simp [errW_none,errW_some] <;> rfl)|(simp [*,errW_none,errW_some] <;> rfl),by (with_reducible repeat (first|apply Kd.R_alloc|apply Kd.R_drewN|apply Kd.R_drew));exact HO331.out,by repeat (first|(with_reducible first|exact HB.out|apply below_alloc|apply pw_below_drewN|apply below_drew1)|exact HB.out)⟩
  ·rw [if_neg c4] at H
   exact absurd H (by simp)
 ·replace c3:=Bool.eq_false_iff.mpr c3
  subst c3
  have H1 : (some (([255] : List Int)))=some r:=by rw [if_neg (show ¬ (false=true) by decide)] at H;exact H
  clear H
  have H:=H1
  clear H1
  obtain ⟨y332,hy332⟩ : ∃ y_ : List Int,y_=(([255] : List Int)):=⟨_,rfl⟩
  replace H : (some y332)=some r:=by first|(rw [hy332];with_reducible exact H)|(have H2_:=(Option.bind_some _ _).symm.trans H;rw [hy332];with_reducible exact H2_)|(have H2_:=(Option.bind_some _ _).symm.trans H;with_reducible exact H2_)|with_reducible exact H|(rw [hy332];exact H)|exact H
  have Ny332:=Aside0.mk hy332
  clear hy332
  obtain rfl:=Option.some.inj H
  go_enter Try.func77,Try.ntmps77
  go_wp2_with (first|((with_reducible refine gate_dst (N:=7) rfl ?_);refine Kd.R_lit (Kd.int .i64) _ 3 ?hg (N:=7) ?hd (xs:=([255] : List Int)) (inner:=[.int .i64 255]) (ok:=fun _=>True) (okp:=fun _=>True) ?hr ?hp (fun _ hk=>hk) trivial (Below.refl _ _) (Nat.le_refl _) (by simp) ?_;(case hd=>rfl);(case hg=>rfl);(case hr=>first|(go_simp;done)|(go_simp;rfl));(case hp=>exact (Reps.one (show Kd.M (Kd.int .i64) _ _ _ 255 [.int .i64 255] from rfl) (Reps.none _ _)));intro v333 w8 ho9 hb hg_ hnew_;clear hg_ hnew_;(first|rw [← Ny332.out] at ho9|(simp only [Int.reduceToNat] at ho9;rw [← Ny332.out] at ho9));have n0_:=Aside0.mk (Kd.R_lower ho9 (below_size (by repeat (first|(with_reducible first|exact HB.out|apply below_alloc|apply pw_below_drewN|apply below_drew1)|exact HB.out))));have n1_:=Aside0.mk (below_step (by repeat (first|(with_reducible first|exact HB.out|apply below_alloc|apply pw_below_drewN|apply below_drew1)|exact HB.out)) hb);clear HB;have HO334:=n0_;have HB:=n1_;clear n0_ n1_;clear hb ho9))
  go_ret
  exact ⟨_,by first|rfl|(simp [errW_none,errW_some] <;> rfl)|(simp [*,errW_none,errW_some] <;> rfl),by (with_reducible repeat (first|apply Kd.R_alloc|apply Kd.R_drewN|apply Kd.R_drew));exact HO334.out,by repeat (first|(with_reducible first|exact HB.out|apply below_alloc|apply pw_below_drewN|apply below_drew1)|exact HB.out)⟩

-- NOT PRINTED: function 90 (slices_Grow_int_int)

/-! ### slices_Concat_int_int: function 78 -/
set_option maxHeartbeats 4000000 in
set_option maxRecDepth 100000 in
theorem grow_zero (w : World) : Calls Try.prog 90 #[.slice none 0 0,.int .i64 0] w fun e w'=>e = .returned (.slice none 0 0)∧w' = w:=by
 go_enter Try.func90,Try.ntmps90
 go_wp2
 go_ret
 exact ⟨rfl,rfl⟩
set_option maxHeartbeats 4000000 in
set_option maxRecDepth 100000 in
theorem grow_new (n : Nat) (w : World) (hn : 0 < n) (hbig : n ≤ 17592186044416) :
  Calls Try.prog 90 #[.slice none 0 0,.int .i64 n] w fun e w'=>∃ v,e = .returned v∧Kd.R (Kd.int .i64) 3 w' w.heap.size (fun _=>True) v []∧Below w.heap.size w w':=by
 obtain ⟨i0,hi0,hz0,hs0,hb0⟩:=info_parts info3
 have h1 : ¬ ((n : Int) < 0):=by omega
 have h3 : wrap64 (n : Int)=(n : Int):=by unfold wrap64;omega
 have h4 : (n : Int) > 0:=by omega
 have hold : (Builtin.firstCells i0.size 0 (.slice none 0 0)).run Try.prog w.drew = .ok (([] : List Value).toArray) w.drew:=run_firstCells_none w.drew i0.size 0 0 0
 have hrz : ∀ ty,(Builtin.append_ #[23,3] ty #[.slice none 0 0,.int .i64 (n : Int)]).run Try.prog w =
   .ok (.slice (some ⟨w.heap.size,0,none⟩) n (grownCap w n 0 3)) (w.drew.alloc (.cells (([] : List Value).toArray ++ Builtin.zeroCells (Value.int .i64 0).cells n ++ Builtin.zeroCells (Value.int .i64 0).cells (grownCap w n 0 3 - n)) 3)):=fun ty=>by
  have h:=Lib.run_append_grow_zeros w 23 3 ty 3 i0 (.int .i64 0) .i64 .i64 Try.underlying23 Try.underlying3 hi0 hz0 none 0 0 [] hold n (by omega) (by omega) (by omega) (by omega) (by rw [hb0];omega) (by rw [Nat.zero_add];exact growslice_fits (by omega) (by rw [hb0];omega))
  rw [Nat.zero_add] at h
  exact h
 have hGn : n ≤ grownCap w n 0 3:=grownCap_ge w _ _ _
 obtain ⟨G,hG⟩ : ∃ G,G=grownCap w n 0 3:=⟨_,rfl⟩
 rw [← hG] at hrz hGn
 have hGm : G ≤ maxLen:=by
  have:=grownCap_le_maxLen w n 0 3 (by unfold maxLen;omega)
  rw [← hG] at this
  exact this
 have hG63 : G ≤ 9223372036854775807:=by unfold maxLen at hGm;omega
 obtain ⟨cs,hcs⟩ : ∃ cs : Array Value,cs=([] : List Value).toArray ++ Builtin.zeroCells (Value.int .i64 0).cells n ++ Builtin.zeroCells (Value.int .i64 0).cells (G - n):=⟨_,rfl⟩
 have hcl : cs.size=G:=by
  rw [hcs]
  simp [Builtin.zeroCells,Value.cells]
  omega
 rw [← hcs] at hrz
 clear hcs hG hold
 go_enter Try.func90,Try.ntmps90
 go_wp2_with (at_builtin;refine Lib.wpList_append_run _ rfl _ _ _ _ rfl _ _ rfl rfl _ _ (hrz _) ?_)
 all_goals
  go_ret
  refine ⟨_,rfl,⟨fun _ _=>trivial,⟨[],⟨rfl,Or.inr ⟨w.heap.size,G,cs,rfl,Nat.le_refl _,?_,Nat.zero_le _,hGm,?_,rfl⟩⟩,Reps.none _ _⟩⟩,?_⟩
  ·exact blk_new w.drew _
  ·rw [hcl];exact (Nat.mul_one _).symm
  ·exact below_alloc (w:=w) (below_drew (Below.refl _ w)) _
def slices_Concat_int_int.f (l0 : List (List Int)) : Option (List Int):=if l0.flatten.length < 17592186044416 then some l0.flatten else none
theorem concat_take (xs : List (List Int)) (i : Int) (h0 : 0 ≤ i) (h1 : i < (xs.length : Int)) : (xs.take (i + 1).toNat).flatten=(xs.take i.toNat).flatten ++ rd_L2 xs i:=by
 have e : (i + 1).toNat=i.toNat + 1:=by omega
 have hl : i.toNat < xs.length:=by omega
 rw [e,List.take_succ_eq_append_getElem hl,List.flatten_append]
 simp [rd_L2,List.getD_eq_getElem?_getD,hl]
theorem concat_le (xs : List (List Int)) (j : Nat) : (xs.take j).flatten.length ≤ xs.flatten.length:=by
 have : (xs.take j ++ xs.drop j).flatten.length=xs.flatten.length:=by rw [List.take_append_drop]
 rw [List.flatten_append,List.length_append] at this
 omega
theorem grow_any (n : Nat) (w : World) (hbig : n ≤ 17592186044416) :
  Calls Try.prog 90 #[.slice none 0 0,.int .i64 n] w fun e w'=>∃ v,e = .returned v∧Kd.R (Kd.int .i64) 3 w' w.heap.size (fun _=>True) v []∧Below w.heap.size w w':=by
 by_cases h : 0 < n
 ·exact grow_new n w h hbig
 ·obtain rfl : n=0:=by omega
  refine (grow_zero w).mono ?_
  rintro e w' ⟨rfl,rfl⟩
  exact ⟨_,rfl,Kd.R_nil _ _ _ _ _,Below.refl _ _⟩
set_option maxHeartbeats 8000000 in
set_option maxRecDepth 100000 in
theorem slices_Concat_int_int.calls (A0 : Option Addr) (c0 : Nat) (l0 : List (List Int)) (r : List Int) (w : World) (hr0 : Kd.C (Kd.slice 3 (Kd.int .i64)) w A0 l0.length l0) (hc0 : l0.length ≤ c0) (h : slices_Concat_int_int.f l0=some r) :
  Calls Try.prog 78 #[.slice A0 l0.length c0] w fun e w'=>∃ v0_ : Value,e = .returned (v0_)∧Kd.R (Kd.int .i64) 3 w' w.heap.size (fun _=>True) v0_ r∧Below w.heap.size w w':=by
 have HR0:=Aside0.mk hr0
 clear hr0
 unfold slices_Concat_int_int.f at h
 by_cases c1 : l0.flatten.length < 17592186044416
 ·rw [if_pos c1] at h
  obtain rfl:=Option.some.inj h
  obtain ⟨N,hN⟩ : ∃ N : Nat,N=l0.flatten.length:=⟨_,rfl⟩
  obtain ⟨S,hS⟩ : ∃ S : Int→Nat,S=fun i=>(l0.take i.toNat).flatten.length:=⟨_,rfl⟩
  have S0 : S 0=0:=by rw [hS];rfl
  have SN : S (l0.length : Int)=N:=by rw [hS,hN];simp
  have Ss : Aside0 (∀ i,0 ≤ i→i < (l0.length : Int)→S i + (rd_L2 l0 i).length=S (i + 1)∧S (i + 1) < 17592186044416):=⟨fun i i0 c2=>by
   have hsz:=concat_take l0 i i0 c2
   have hle:=concat_le l0 (i + 1).toNat
   rw [hS]
   dsimp only
   rw [hsz,List.length_append]
   rw [hsz,List.length_append] at hle
   omega⟩
  have LF:=Aside0.mk hN
  rw [← hN] at c1
  have LM:=Aside0.mk c1
  have LN:=Aside0.mk (show l0.length ≤ 9223372036854775807 from HR0.out.2.1)
  clear c1 h hS hN
  go_enter Try.func78,Try.ntmps78
  go_wp2
  go_loopg [3,11] (l0.length) (fun kq v3 v11 w'=>∃ i : Int,v11 = .int .i64 i∧v3 = .int .i64 (S i : Int)∧Aside0 (0 ≤ i∧i ≤ l0.length∧(kq : Int) + i=l0.length)∧Drawn0 w w')
  case atStart=>exact ⟨0,rfl,(by rw [S0];rfl),⟨by omega,by omega,by omega⟩,Drawn0.refl _⟩
  case round =>
   obtain ⟨i,rfl,rfl,HI,⟨m1,rfl⟩⟩:=hrel
   obtain ⟨i0,i1,i2⟩:=HI.out
   by_cases c2 : i < (l0.length : Int)
   ·obtain ⟨g1,rfl⟩ : ∃ g1,gk=g1 + 1:=⟨gk - 1,by omega⟩
    obtain ⟨ad,A1,cc1,e1,hx,hcc,hC1⟩:=at_L2 HR0.out i i0 c2
    cases e1
    obtain ⟨s1,s2⟩:=Ss.out i i0 c2
    have w1 : wrap64 ((S i : Int) + ((rd_L2 l0 i).length : Int))=(S (i + 1) : Int):=by unfold wrap64;omega
    have W1:=Aside0.mk w1
    have w2 : wrap64 (i + 1)=i + 1:=by clear w1 W1;have:=LN.out;unfold wrap64;omega
    have r0 : 0 ≤ i + 1∧i + 1 ≤ (l0.length : Int)∧(g1 : Int) + (i + 1)=l0.length:=by clear w1 W1 w2;omega
    have n1 : decide (wrap64 ((S i : Int) + ((rd_L2 l0 i).length : Int)) < 0)=false:=by rw [w1];exact decide_eq_false (Int.not_lt.2 (Int.natCast_nonneg _))
    have p1:=eq_true i0
    have q1:=eq_true c2
    have d1 : decide (i < (l0.length : Int))=true:=decide_eq_true c2
    clear s1 s2 w1
    go_wp2
    go_roundg g1
    case measure=>exact Nat.lt_succ_self _
    case rel=>exact ⟨i + 1,(by first|rfl|rw [w2]),(by first|rfl|(rw [W1.out])),⟨r0⟩,by repeat (first|exact Drawn0.refl _|apply Drawn0.step)⟩
   ·have d1 : decide (i < (l0.length : Int))=false:=decide_eq_false c2
    obtain rfl : i=l0.length:=by omega
    rw [SN]
    have hnb : N ≤ 17592186044416:=by have:=LM.out;omega
    go_wp2_with (go_at_call 90;refine (grow_any N _ hnb).mono ?_;rintro e w' ⟨v6,rfl,ho,hb⟩)
    go_loopg [6,27] (l0.length) (fun kq v6 v27 w'=>∃ (i : Int) (ys : List Int),v27 = .int .i64 i∧Aside0 (ys=(l0.take i.toNat).flatten)∧Aside0 (0 ≤ i∧i ≤ l0.length∧(kq : Int) + i=l0.length)∧Aside0 (Kd.R (Kd.int .i64) 3 w' w.heap.size (fun _=>True) v6 ys)∧Aside0 (Below w.heap.size w w'))
    case atStart=>exact ⟨0,[],rfl,⟨rfl⟩,⟨by omega,by omega,by omega⟩,⟨ho⟩,⟨below_step (pw_below_drewN (Below.refl _ w) _) hb⟩⟩
    case round =>
     obtain ⟨i,ys,rfl,HY,HI,HO,HB⟩:=hrel
     obtain ⟨i0,i1,i2⟩:=HI.out
     clear ho hb
     by_cases c2 : i < (l0.length : Int)
     ·obtain ⟨g1,rfl⟩ : ∃ g1,gk=g1 + 1:=⟨gk - 1,by omega⟩
      obtain ⟨ad,A1,cc1,e1,hx,hcc,hC1⟩:=at_L2 (Kd.C_below HR0.out HB.out) i i0 c2
      cases e1
      have hzs:=concat_take l0 i i0 c2
      have hle:=concat_le l0 (i + 1).toNat
      rw [← HY.out] at hzs
      obtain ⟨zs,hzs2⟩ : ∃ zs,zs=ys ++ rd_L2 l0 i:=⟨_,rfl⟩
      have Nz:=Aside0.mk hzs2
      have NY:=Aside0.mk (show zs=(l0.take (i + 1).toNat).flatten by rw [hzs2,hzs])
      have LA:=Aside0.mk (show ys.length + (rd_L2 l0 i).length < 17592186044416 by rw [hzs,List.length_append] at hle;have:=LM.out;have:=LF.out;omega)
      have HC1:=Aside0.mk hC1
      have w2 : wrap64 (i + 1)=i + 1:=by have:=LN.out;unfold wrap64;omega
      have r0 : 0 ≤ i + 1∧i + 1 ≤ (l0.length : Int)∧(g1 : Int) + (i + 1)=l0.length:=by clear w2;omega
      have p1:=eq_true i0
      have q1:=eq_true c2
      have d1 : decide (i < (l0.length : Int))=true:=decide_eq_true c2
      clear hzs hle hzs2 hC1
      go_wp2_with ((with_reducible refine gate_builtin (b:=.append) (xs:=#[.tmp 31,.tmp 32]) rfl ?_);at_builtin;refine Kd.R_append_rows (Kd.int .i64) (w0:=w) w.heap.size rfl (.tmp 31) (.tmp 32) 23 3 (.int .i64 0) 8 rfl Try.underlying23 info3 rfl (by decide) (by omega) _ ys (rd_L2 l0 i) _ _ _ (fun _=>True) (fun _=>False) rfl rfl ?aO ?aR (fun _ _ h=>h) (fun _ h=>h.elim) ?aF ?aB ?aS ?aL ?_;(case aR=>repeat (first|exact HC1.out|(with_reducible refine Kd.C_alloc ?_ _)|(with_reducible refine Kd.C_drewN ?_ _)|(with_reducible refine Kd.C_drew ?_)));(case aB=>exact (by repeat (first|(with_reducible first|exact HB.out|apply below_alloc|apply pw_below_drewN|apply below_drew1)|exact HB.out)));(case aF=>exact (fun _ _=>trivial));(case aO=>exact (by (with_reducible repeat (first|apply Kd.R_alloc|apply Kd.R_drewN|apply Kd.R_drew));exact HO.out));(case aS=>exact (below_size (by repeat (first|(with_reducible first|exact HB.out|apply below_alloc|apply pw_below_drewN|apply below_drew1)|exact HB.out))));(case aL=>have:=LA.out;omega);intro v121 w7 ho hb hg hat;rw [← Nz.out] at ho;have n0_:=Aside0.mk (hb);have n1_:=Aside0.mk (ho);clear HB;clear HO;have HB:=n0_;have HO:=n1_;clear n0_ n1_;clear ho hb hg hat)
      go_roundg g1
      case measure=>exact Nat.lt_succ_self _
      case rel=>exact ⟨i + 1,zs,(by first|rfl|rw [w2]),NY,⟨r0⟩,⟨by (with_reducible repeat (first|apply Kd.R_alloc|apply Kd.R_drewN|apply Kd.R_drew));exact HO.out⟩,⟨by repeat (first|(with_reducible first|exact HB.out|apply below_alloc|apply pw_below_drewN|apply below_drew1)|exact HB.out)⟩⟩
     ·have d1 : decide (i < (l0.length : Int))=false:=decide_eq_false c2
      obtain rfl : i=l0.length:=by omega
      have HY2:=Aside0.mk (show ys=l0.flatten by rw [HY.out];simp)
      go_wp2
      go_ret
      exact ⟨_,rfl,by (with_reducible repeat (first|apply Kd.R_alloc|apply Kd.R_drewN|apply Kd.R_drew));rw [← HY2.out];exact HO.out,by repeat (first|(with_reducible first|exact HB.out|apply below_alloc|apply pw_below_drewN|apply below_drew1)|exact HB.out)⟩
 ·rw [if_neg c1] at h
  exact absurd h (by simp)

/-! ### impl_sum_with: function 91 -/
def impl_sum_with.f (a0 : Int) (a1 : Int) : Option (Int):=some (Int.tmod (wrap64 ((wrap64 (257 * a0)) + a1)) 65521)
set_option maxHeartbeats 8000000 in
set_option maxRecDepth 100000 in
theorem impl_sum_with.calls (a0 : Int) (a1 : Int) (r : Int) (w : World) (h : impl_sum_with.f a0 a1=some r) :
  Calls Try.prog 91 #[.int .i64 a0,.int .i64 a1] w fun e w'=>e = .returned (.int .i64 r)∧Drawn0 w w':=by
 have H : (some (Int.tmod (wrap64 ((wrap64 (257 * a0)) + a1)) 65521))=some r:=h
 clear h
 obtain rfl:=Option.some.inj H
 go_enter Try.func91,Try.ntmps91
 go_wp2
 go_ret
 exact ⟨by first|rfl|(simp;done)|(simp [*];done),by repeat (first|exact Drawn0.refl _|apply Drawn0.step)⟩

/-! ### impl_sum_over: function 79 -/
def impl_sum_over.l0 : Nat→Int→List Int→Int→Int→Option (Int)
 | 0,_,_,_,_=>none
 | k + 1,x0,x7,x8,x9=>if x9 < x8 then (if 0 ≤ x9 then (if x9 < (x7.length : Int) then ((impl_sum_with.f x0 (rd x7 x9)).bind fun t336=>(impl_sum_over.l0 k t336 x7 x8 (wrap64 (x9 + 1)))) else (none)) else (none)) else (some x0)
def impl_sum_over.f (k : Nat) (a0 : Int) (l1 : List Int) : Option (Int):=impl_sum_over.l0 k a0 l1 (l1.length : Int) 0
theorem impl_sum_over.mono_l : ∀ k,(∀ y0 y1 y2 y3,LeO (impl_sum_over.l0 k y0 y1 y2 y3) (impl_sum_over.l0 (k + 1) y0 y1 y2 y3))
 | 0=>fun _ _ _ _ r h=>by simp [impl_sum_over.l0] at h
 | k + 1=>by
  have ih0:=impl_sum_over.mono_l k
  ·intro y0 y1 y2 y3
   unfold impl_sum_over.l0
   repeat' first
   | (with_reducible exact ih0 _ _ _ _)
   | (with_reducible exact LeO.refl _)
   | (with_reducible exact LeO.none _)
   | (with_reducible refine LeO.ite ?_ ?_)
   | (with_reducible refine LeO.bind ?_ (fun _=>?_))
   | exact ih0 _ _ _ _
   | exact LeO.none _
   | refine LeO.ite ?_ ?_
   | refine LeO.bind ?_ (fun _=>?_)
theorem impl_sum_over.mono : ∀ a0 a1 k,LeO (impl_sum_over.f k a0 a1) (impl_sum_over.f (k + 1) a0 a1):=by
 intro a0 a1 k
 have ih0:=impl_sum_over.mono_l k
 unfold impl_sum_over.f
 repeat' first
   | (with_reducible exact ih0 _ _ _ _)
   | (with_reducible exact LeO.refl _)
   | (with_reducible exact LeO.none _)
   | (with_reducible refine LeO.ite ?_ ?_)
   | (with_reducible refine LeO.bind ?_ (fun _=>?_))
   | exact ih0 _ _ _ _
   | exact LeO.none _
   | refine LeO.ite ?_ ?_
   | refine LeO.bind ?_ (fun _=>?_)
set_option maxHeartbeats 8000000 in
set_option maxRecDepth 100000 in
theorem impl_sum_over.calls (k : Nat) (a0 : Int) (A1 : Option Addr) (c1 : Nat) (l1 : List Int) (r : Int) (w : World) (hr1 : Kd.C (Kd.int .i64) w A1 l1.length l1) (hc1 : l1.length ≤ c1) (h : impl_sum_over.f k a0 l1=some r) :
  Calls Try.prog 79 #[.int .i64 a0,.slice A1 l1.length c1] w fun e w'=>e = .returned (.int .i64 r)∧Drawn0 w w':=by
 have HR1:=Aside0.mk hr1
 have HC1:=Aside0.mk hc1
 clear hr1 hc1
 have H : (impl_sum_over.l0 k a0 l1 (l1.length : Int) 0)=some r:=h
 clear h
 have H':=Aside0.mk H
 clear H
 go_enter Try.func79,Try.ntmps79
 go_wp2
 go_loopg [0,9] k (fun kq v0 v9 w'=>∃ (x0_1 : Int) (x9_1 : Int),v0 = .int .i64 x0_1∧v9 = .int .i64 x9_1∧Aside0 (impl_sum_over.l0 kq x0_1 l1 (l1.length : Int) x9_1=some r)∧Aside0 (kq ≤ k)∧Drawn0 w w')
 case atStart=>exact ⟨(a0),(0),(by first|rfl|(simp;done)|(simp [*];done)),(by first|rfl|(simp;done)|(simp [*];done)),H',⟨Nat.le_refl _⟩,by repeat (first|exact Drawn0.refl _|apply Drawn0.step)⟩
 case round =>
  clear H'
  try clear c1
  try clear p2
  obtain ⟨x0_1,x9_1,rfl,rfl,HA,HK1,⟨m1,rfl⟩⟩:=hrel
  cases gk with
  | zero=>exact absurd HA.out (by simp [impl_sum_over.l0])
  | succ k1 =>
   have H:=HA.out
   clear HA
   simp only [impl_sum_over.l0] at H
   by_cases c3 : x9_1 < (l1.length : Int)
   ·rw [if_pos c3] at H
    have c3b0 : decide (x9_1 < (l1.length : Int))=true:=decide_eq_true c3
    clear c3
    by_cases c4 : 0 ≤ x9_1
    ·rw [if_pos c4] at H
     have c4b0 : decide (0 ≤ x9_1)=true:=decide_eq_true c4
     clear c4
     by_cases c5 : x9_1 < (l1.length : Int)
     ·rw [if_pos c5] at H
      have c5b0 : decide (x9_1 < (l1.length : Int))=true:=decide_eq_true c5
      clear c5
      replace H:=Option.bind_eq_some_iff.mp H
      obtain ⟨t336,A60,H⟩:=H
      replace H : (impl_sum_over.l0 k1 t336 l1 (l1.length : Int) (wrap64 (x9_1 + 1)))=some r:=H
      have A6:=Aside0.mk A60
      clear A60
      have H':=Aside0.mk H
      clear H
      have p335 : 0 ≤ (x9_1 : Int):=of_decide_eq_true (by first|(with_reducible assumption)|assumption)
      have q335 : x9_1 < (l1.length : Int):=of_decide_eq_true (by first|(with_reducible assumption)|assumption)
      obtain ⟨ad335,e335,hx335_0⟩:=Kd.at_int HR1.out x9_1 p335 q335
      cases e335
      replace p335:=eq_true p335
      replace q335:=eq_true q335
      go_wp2_with (first|((with_reducible refine gate_callee (f:=91) rfl ?_);refine goesL_ (some 15) rfl rfl Try.func91 (by kernel_rfl) rfl #[.int .i64 x0_1,.int .i64 (rd l1 x9_1)] rfl (by (try simp only [List.map_toArray,List.map_cons,List.map_nil]);first|done|rfl|(simp only [List.length_drop,List.length_take];rfl)) ?_;(with_reducible refine (impl_sum_with.calls x0_1 (rd l1 x9_1) t336 _ A6.out).mono ?_);rintro e w' ⟨rfl,⟨nd,rfl⟩⟩;refine ⟨_,rfl,?_⟩))
      go_roundg k1
      case measure=>have:=HK1.out;omega
      case rel=>exact ⟨(t336),(wrap64 (x9_1 + 1)),(by first|rfl|(simp;done)|(simp [*];done)),(by first|rfl|(simp;done)|(simp [*];done)),H',⟨by have:=HK1.out;omega⟩,by repeat (first|exact Drawn0.refl _|apply Drawn0.step)⟩
     ·rw [if_neg c5] at H
      exact absurd H (by simp)
    ·rw [if_neg c4] at H
     exact absurd H (by simp)
   ·rw [if_neg c3] at H
    have c3b0 : decide (x9_1 < (l1.length : Int))=false:=decide_eq_false c3
    clear c3
    obtain rfl:=Option.some.inj H
    go_wp2
    go_ret
    exact ⟨by first|rfl|(simp;done)|(simp [*];done),by repeat (first|exact Drawn0.refl _|apply Drawn0.step)⟩

/-! ### impl_Old_bytesOf: function 54 -/
def impl_Old_bytesOf.j0 : Nat→List Int→Int→Bool→Int→List Int→List Int→Bool→Bool→Option (List Int)
 | 0,_,_,_,_,_,_,_,_=>none
 | k + 1,x3,x338000,x338001,x338002,x338003,x338004,x338005,x338006=>(impl_oldPart.f x338005 x338003).bind fun t350=>(if x3.length + t350.length < 17592186044416 then ((some (x3 ++ t350 : List Int)).bind fun y353=>((impl_oldPart.f (!x338006) x338004).bind fun t356=>(if y353.length + t356.length < 17592186044416 then ((some (y353 ++ t356 : List Int)).bind fun y359=>((impl_intOf.f k x338000 3).bind fun t362=>((impl_sum_over.f k 1 y359).bind fun t365=>((impl_intOf.f k t365 2).bind fun t366=>((slices_Concat_int_int.f (([t362,t366,y359] : List (List Int)))).bind fun t372=>(some t372)))))) else (none)))) else (none))
def impl_Old_bytesOf.f (k : Nat) (a0_0 : Int) (a0_1 : Bool) (a0_2 : Int) (l0_3 : List Int) (l0_4 : List Int) (a0_5 : Bool) (a0_6 : Bool) : Option (List Int):=if a0_1=true then ((some (([1] : List Int) : List Int)).bind fun y341=>((impl_intOf.f k a0_2 3).bind fun t344=>(if y341.length + t344.length < 17592186044416 then (impl_Old_bytesOf.j0 k (y341 ++ t344) a0_0 a0_1 a0_2 l0_3 l0_4 a0_5 a0_6) else (none)))) else (impl_Old_bytesOf.j0 k (([0] : List Int)) a0_0 a0_1 a0_2 l0_3 l0_4 a0_5 a0_6)
theorem impl_Old_bytesOf.mono_l : ∀ k,(∀ y0 y1 y2 y3 y4 y5 y6 y7,LeO (impl_Old_bytesOf.j0 k y0 y1 y2 y3 y4 y5 y6 y7) (impl_Old_bytesOf.j0 (k + 1) y0 y1 y2 y3 y4 y5 y6 y7))
 | 0=>fun _ _ _ _ _ _ _ _ r h=>by simp [impl_Old_bytesOf.j0] at h
 | k + 1=>by
  have ih0:=impl_Old_bytesOf.mono_l k
  ·intro y0 y1 y2 y3 y4 y5 y6 y7
   unfold impl_Old_bytesOf.j0
   repeat' first
   | (with_reducible exact ih0 _ _ _ _ _ _ _ _)
   | (with_reducible exact impl_intOf.mono _ _ _)
   | (with_reducible exact impl_sum_over.mono _ _ _)
   | (with_reducible exact LeO.refl _)
   | (with_reducible exact LeO.none _)
   | (with_reducible refine LeO.ite ?_ ?_)
   | (with_reducible refine LeO.bind ?_ (fun _=>?_))
   | exact ih0 _ _ _ _ _ _ _ _
   | exact impl_intOf.mono _ _ _
   | exact impl_sum_over.mono _ _ _
   | exact LeO.none _
   | refine LeO.ite ?_ ?_
   | refine LeO.bind ?_ (fun _=>?_)
theorem impl_Old_bytesOf.mono : ∀ a0 a1 a2 a3 a4 a5 a6 k,LeO (impl_Old_bytesOf.f k a0 a1 a2 a3 a4 a5 a6) (impl_Old_bytesOf.f (k + 1) a0 a1 a2 a3 a4 a5 a6):=by
 intro a0 a1 a2 a3 a4 a5 a6 k
 have ih0:=impl_Old_bytesOf.mono_l k
 unfold impl_Old_bytesOf.f
 repeat' first
   | (with_reducible exact ih0 _ _ _ _ _ _ _ _)
   | (with_reducible exact impl_intOf.mono _ _ _)
   | (with_reducible exact impl_sum_over.mono _ _ _)
   | (with_reducible exact LeO.refl _)
   | (with_reducible exact LeO.none _)
   | (with_reducible refine LeO.ite ?_ ?_)
   | (with_reducible refine LeO.bind ?_ (fun _=>?_))
   | exact ih0 _ _ _ _ _ _ _ _
   | exact impl_intOf.mono _ _ _
   | exact impl_sum_over.mono _ _ _
   | exact LeO.none _
   | refine LeO.ite ?_ ?_
   | refine LeO.bind ?_ (fun _=>?_)
set_option maxHeartbeats 8000000 in
set_option maxRecDepth 100000 in
theorem impl_Old_bytesOf.calls (k : Nat) (a0_0 : Int) (a0_1 : Bool) (a0_2 : Int) (A0_3 : Option Addr) (c0_3 : Nat) (l0_3 : List Int) (A0_4 : Option Addr) (c0_4 : Nat) (l0_4 : List Int) (a0_5 : Bool) (a0_6 : Bool) (r : List Int) (w : World) (hr0_3 : Kd.C (Kd.int .i64) w A0_3 l0_3.length l0_3) (hc0_3 : l0_3.length ≤ c0_3) (hr0_4 : Kd.C (Kd.int .i64) w A0_4 l0_4.length l0_4) (hc0_4 : l0_4.length ≤ c0_4) (h : impl_Old_bytesOf.f k a0_0 a0_1 a0_2 l0_3 l0_4 a0_5 a0_6=some r) :
  Calls Try.prog 54 #[.agg #[.int .i64 a0_0,.bool a0_1,.int .i64 a0_2,.slice A0_3 l0_3.length c0_3,.slice A0_4 l0_4.length c0_4,.bool a0_5,.bool a0_6]] w fun e w'=>∃ v0_ : Value,e = .returned (v0_)∧Kd.R (Kd.int .i64) 3 w' w.heap.size (fun _=>True) v0_ r∧Below w.heap.size w w':=by
 have hu26:=Try.underlying26
 have HR0_3:=Aside0.mk hr0_3
 have HC0_3:=Aside0.mk hc0_3
 clear hr0_3 hc0_3
 have HR0_4:=Aside0.mk hr0_4
 have HC0_4:=Aside0.mk hc0_4
 clear hr0_4 hc0_4
 have HB:=Aside0.mk (Below.refl w.heap.size w)
 have H : (if a0_1=true then ((some (([1] : List Int) : List Int)).bind fun y341=>((impl_intOf.f k a0_2 3).bind fun t344=>(if y341.length + t344.length < 17592186044416 then (impl_Old_bytesOf.j0 k (y341 ++ t344) a0_0 a0_1 a0_2 l0_3 l0_4 a0_5 a0_6) else (none)))) else (impl_Old_bytesOf.j0 k (([0] : List Int)) a0_0 a0_1 a0_2 l0_3 l0_4 a0_5 a0_6))=some r:=h
 clear h
 obtain ⟨y338,hy338⟩ : ∃ y_ : List Int,y_=(([0] : List Int)):=⟨_,rfl⟩
 replace H : (if a0_1=true then ((some (([1] : List Int) : List Int)).bind fun y341=>((impl_intOf.f k a0_2 3).bind fun t344=>(if y341.length + t344.length < 17592186044416 then (impl_Old_bytesOf.j0 k (y341 ++ t344) a0_0 a0_1 a0_2 l0_3 l0_4 a0_5 a0_6) else (none)))) else (impl_Old_bytesOf.j0 k y338 a0_0 a0_1 a0_2 l0_3 l0_4 a0_5 a0_6))=some r:=by first|(rw [hy338];with_reducible exact H)|(have H2_:=(Option.bind_some _ _).symm.trans H;rw [hy338];with_reducible exact H2_)|(have H2_:=(Option.bind_some _ _).symm.trans H;with_reducible exact H2_)|with_reducible exact H|(rw [hy338];exact H)|exact H
 have Ny338:=Aside0.mk hy338
 clear hy338
 have HC2:=Aside0.mk H
 clear H
 go_enter Try.func54,Try.ntmps54
 go_upto_if 6 with (first|((with_reducible refine gate_dst (N:=1) rfl ?_);refine box_event ?hg (N:=1) ?hd (cs:=#[.int .i64 a0_0,.bool a0_1,.int .i64 a0_2,.slice A0_3 l0_3.length c0_3,.slice A0_4 l0_4.length c0_4,.bool a0_5,.bool a0_6]) (t:=26) ?hr ?_;(case hd=>rfl);(case hg=>rfl);(case hr=>first|(go_simp;done)|(go_simp;rfl));intro gb337 hg w3 hbox hb;have n0_:=Aside0.mk (below_step (by repeat (first|(with_reducible first|exact HB.out|apply below_alloc|apply pw_below_drewN|apply below_drew1)|exact HB.out)) hb);have n1_:=Aside0.mk (hbox);have n2_:=Aside0.mk ((by rw [hg];exact (below_size (by repeat (first|(with_reducible first|exact HB.out|apply below_alloc|apply pw_below_drewN|apply below_drew1)|exact HB.out))) : w.heap.size ≤ gb337));have n3_:=Aside0.mk ((by rw [hg];exact (below_size (by repeat (first|(with_reducible first|exact HB.out|apply below_alloc|apply pw_below_drewN|apply below_drew1)|exact HB.out))) : w.heap.size ≤ gb337));clear HB;have HB:=n0_;have BK337:=n1_;have GW337:=n2_;have GE337:=n3_;clear n0_ n1_ n2_ n3_;clear hb hbox hg)|((with_reducible refine gate_dst (N:=4) rfl ?_);refine Kd.R_lit (Kd.int .i64) _ 3 ?hg (N:=4) ?hd (xs:=([0] : List Int)) (inner:=[.int .i64 0]) (ok:=fun _=>True) (okp:=fun _=>True) ?hr ?hp (fun _ hk=>hk) trivial (Below.refl _ _) (Nat.le_refl _) (by simp) ?_;(case hd=>rfl);(case hg=>rfl);(case hr=>first|(go_simp;done)|(go_simp;rfl));(case hp=>exact (Reps.one (show Kd.M (Kd.int .i64) _ _ _ 0 [.int .i64 0] from rfl) (Reps.none _ _)));intro v339 w4 ho5 hb hg_ hnew_;clear hg_ hnew_;(first|rw [← Ny338.out] at ho5|(simp only [Int.reduceToNat] at ho5;rw [← Ny338.out] at ho5));have n0_:=Aside0.mk (Kd.R_lower ho5 (below_size (by repeat (first|(with_reducible first|exact HB.out|apply below_alloc|apply pw_below_drewN|apply below_drew1|refine below_set ?_ GE337.out)|exact HB.out))));have n1_:=Aside0.mk (blk_below (g:=gb337) (o:=.cells #[.int .i64 a0_0,.bool a0_1,.int .i64 a0_2,.slice A0_3 l0_3.length c0_3,.slice A0_4 l0_4.length c0_4,.bool a0_5,.bool a0_6] 26 (0,0)) (by (with_reducible repeat (first|refine blk_drewN ?_ _|refine blk_drew ?_|refine blk_alloc ?_ _));exact BK337.out) hb);have n2_:=Aside0.mk (below_step (by repeat (first|(with_reducible first|exact HB.out|apply below_alloc|apply pw_below_drewN|apply below_drew1|refine below_set ?_ GE337.out)|exact HB.out)) hb);clear BK337;clear HB;have HO340:=n0_;have BK337:=n1_;have HB:=n2_;clear n0_ n1_ n2_;clear hb ho5;have hcz6_0 : w4.cell? ⟨gb337,0,none⟩ = some (.int .i64 a0_0):=(blk_cell BK337.out 0).trans rfl;have hcz6_1 : w4.cell? ⟨gb337,1,none⟩ = some (.bool a0_1):=(blk_cell BK337.out 1).trans rfl;have hcz6_2 : w4.cell? ⟨gb337,2,none⟩ = some (.int .i64 a0_2):=(blk_cell BK337.out 2).trans rfl;have hcz6_3 : w4.cell? ⟨gb337,3,none⟩ = some (.slice A0_3 l0_3.length c0_3):=(blk_cell BK337.out 3).trans rfl;have hcz6_4 : w4.cell? ⟨gb337,4,none⟩ = some (.slice A0_4 l0_4.length c0_4):=(blk_cell BK337.out 4).trans rfl;have hcz6_5 : w4.cell? ⟨gb337,5,none⟩ = some (.bool a0_5):=(blk_cell BK337.out 5).trans rfl;have hcz6_6 : w4.cell? ⟨gb337,6,none⟩ = some (.bool a0_6):=(blk_cell BK337.out 6).trans rfl;have hfz6_0:=blk_frozen BK337.out 0;have hfz6_1:=blk_frozen BK337.out 1;have hfz6_2:=blk_frozen BK337.out 2;have hfz6_3:=blk_frozen BK337.out 3;have hfz6_4:=blk_frozen BK337.out 4;have hfz6_5:=blk_frozen BK337.out 5;have hfz6_6:=blk_frozen BK337.out 6))
 (try simp only [Act.put,List.setIfInBounds_toArray,List.set_cons_zero,List.set_cons_succ])
 go_cut [3] (fun v3 wc=>∃ (kq : Nat) (x3_1 : List Int),Aside0 (impl_Old_bytesOf.j0 kq x3_1 a0_0 a0_1 a0_2 l0_3 l0_4 a0_5 a0_6=some r)∧Aside0 (kq ≤ k)∧Aside0 (Kd.R (Kd.int .i64) 3 wc w.heap.size (fun _=>True) v3 x3_1)∧Aside0 (wc.heap[gb337]? = some (.cells #[.int .i64 a0_0,.bool a0_1,.int .i64 a0_2,(.slice A0_3 l0_3.length c0_3),(.slice A0_4 l0_4.length c0_4),.bool a0_5,.bool a0_6] 26 (0,0)))∧Aside0 (Below w.heap.size w wc))
 case first =>
  have H:=HC2.out
  clear HC2
  by_cases c7 : a0_1=true
  ·subst c7
   have H1 : ((some (([1] : List Int) : List Int)).bind fun y341=>((impl_intOf.f k a0_2 3).bind fun t344=>(if y341.length + t344.length < 17592186044416 then (impl_Old_bytesOf.j0 k (y341 ++ t344) a0_0 true a0_2 l0_3 l0_4 a0_5 a0_6) else (none))))=some r:=by rw [if_pos rfl] at H;exact H
   clear H
   have H:=H1
   clear H1
   obtain ⟨y341,hy341⟩ : ∃ y_ : List Int,y_=(([1] : List Int)):=⟨_,rfl⟩
   replace H : ((impl_intOf.f k a0_2 3).bind fun t344=>(if y341.length + t344.length < 17592186044416 then (impl_Old_bytesOf.j0 k (y341 ++ t344) a0_0 true a0_2 l0_3 l0_4 a0_5 a0_6) else (none)))=some r:=by first|(rw [hy341];with_reducible exact H)|(have H2_:=(Option.bind_some _ _).symm.trans H;rw [hy341];with_reducible exact H2_)|(have H2_:=(Option.bind_some _ _).symm.trans H;with_reducible exact H2_)|with_reducible exact H|(rw [hy341];exact H)|exact H
   have Ny341:=Aside0.mk hy341
   clear hy341
   replace H:=Option.bind_eq_some_iff.mp H
   obtain ⟨t344,A80,H⟩:=H
   replace H : (if y341.length + t344.length < 17592186044416 then (impl_Old_bytesOf.j0 k (y341 ++ t344) a0_0 true a0_2 l0_3 l0_4 a0_5 a0_6) else (none))=some r:=H
   have A8:=Aside0.mk A80
   clear A80
   by_cases c9 : y341.length + t344.length < 17592186044416
   ·rw [if_pos c9] at H
    have LMc9:=Aside0.mk c9
    clear c9
    obtain ⟨y347,hy347⟩ : ∃ y_ : List Int,y_=(y341 ++ t344):=⟨_,rfl⟩
    replace H : (impl_Old_bytesOf.j0 k y347 a0_0 true a0_2 l0_3 l0_4 a0_5 a0_6)=some r:=by first|(rw [hy347];with_reducible exact H)|(have H2_:=(Option.bind_some _ _).symm.trans H;rw [hy347];with_reducible exact H2_)|(have H2_:=(Option.bind_some _ _).symm.trans H;with_reducible exact H2_)|with_reducible exact H|(rw [hy347];exact H)|exact H
    have Ny347:=Aside0.mk hy347
    clear hy347
    have H':=Aside0.mk H
    clear H
    go_wp2_with (first|((with_reducible refine gate_dst (N:=7) rfl ?_);refine Kd.R_lit (Kd.int .i64) _ 3 ?hg (N:=7) ?hd (xs:=([1] : List Int)) (inner:=[.int .i64 1]) (ok:=fun _=>True) (okp:=fun _=>True) ?hr ?hp (fun _ hk=>hk) trivial (Below.refl _ _) (Nat.le_refl _) (by simp) ?_;(case hd=>rfl);(case hg=>rfl);(case hr=>first|(go_simp;done)|(go_simp;rfl));(case hp=>exact (Reps.one (show Kd.M (Kd.int .i64) _ _ _ 1 [.int .i64 1] from rfl) (Reps.none _ _)));intro v342 w10 ho11 hb hg_ hnew_;clear hg_ hnew_;(first|rw [← Ny341.out] at ho11|(simp only [Int.reduceToNat] at ho11;rw [← Ny341.out] at ho11));have n0_:=Aside0.mk (Kd.R_elder' (by (with_reducible repeat (first|apply Kd.R_alloc|apply Kd.R_drewN|apply Kd.R_drew));exact HO340.out) (Kd.R_base ho11) hb);have n1_:=Aside0.mk (Kd.R_lower (Kd.R_new' ho11 (Kd.R_lt (by (with_reducible repeat (first|apply Kd.R_alloc|apply Kd.R_drewN|apply Kd.R_drew));exact HO340.out))) (below_size (by repeat (first|(with_reducible first|exact HB.out|apply below_alloc|apply pw_below_drewN|apply below_drew1|refine below_set ?_ GE337.out)|exact HB.out))));have n2_:=Aside0.mk (blk_below (g:=gb337) (o:=.cells #[.int .i64 a0_0,.bool true,.int .i64 a0_2,.slice A0_3 l0_3.length c0_3,.slice A0_4 l0_4.length c0_4,.bool a0_5,.bool a0_6] 26 (0,0)) (by (with_reducible repeat (first|refine blk_drewN ?_ _|refine blk_drew ?_|refine blk_alloc ?_ _));exact BK337.out) hb);have n3_:=Aside0.mk (below_step (by repeat (first|(with_reducible first|exact HB.out|apply below_alloc|apply pw_below_drewN|apply below_drew1|refine below_set ?_ GE337.out)|exact HB.out)) hb);clear HO340;clear BK337;clear HB;have HO340:=n0_;have HO343:=n1_;have BK337:=n2_;have HB:=n3_;clear n0_ n1_ n2_ n3_;clear hb ho11;have hcz12_0 : w10.cell? ⟨gb337,0,none⟩ = some (.int .i64 a0_0):=(blk_cell BK337.out 0).trans rfl;have hcz12_1 : w10.cell? ⟨gb337,1,none⟩ = some (.bool true):=(blk_cell BK337.out 1).trans rfl;have hcz12_2 : w10.cell? ⟨gb337,2,none⟩ = some (.int .i64 a0_2):=(blk_cell BK337.out 2).trans rfl;have hcz12_3 : w10.cell? ⟨gb337,3,none⟩ = some (.slice A0_3 l0_3.length c0_3):=(blk_cell BK337.out 3).trans rfl;have hcz12_4 : w10.cell? ⟨gb337,4,none⟩ = some (.slice A0_4 l0_4.length c0_4):=(blk_cell BK337.out 4).trans rfl;have hcz12_5 : w10.cell? ⟨gb337,5,none⟩ = some (.bool a0_5):=(blk_cell BK337.out 5).trans rfl;have hcz12_6 : w10.cell? ⟨gb337,6,none⟩ = some (.bool a0_6):=(blk_cell BK337.out 6).trans rfl;have hfz12_0:=blk_frozen BK337.out 0;have hfz12_1:=blk_frozen BK337.out 1;have hfz12_2:=blk_frozen BK337.out 2;have hfz12_3:=blk_frozen BK337.out 3;have hfz12_4:=blk_frozen BK337.out 4;have hfz12_5:=blk_frozen BK337.out 5;have hfz12_6:=blk_frozen BK337.out 6)|((with_reducible refine gate_callee (f:=76) rfl ?_);refine goesL_ (some 10) rfl rfl Try.func76 (by kernel_rfl) rfl #[.int .i64 a0_2,.int .i64 3] rfl (by (try simp only [List.map_toArray,List.map_cons,List.map_nil]);first|done|rfl|(simp only [List.length_drop,List.length_take];rfl)) ?_;(with_reducible refine (impl_intOf.calls k a0_2 3 t344 _ A8.out).mono ?_);rintro e w13 ⟨v345,rfl,ho0,hb⟩;refine ⟨_,rfl,?_⟩;have n0_:=Aside0.mk (Kd.R_elder' (by (with_reducible repeat (first|apply Kd.R_alloc|apply Kd.R_drewN|apply Kd.R_drew));exact HO340.out) (Kd.R_base ho0) hb);have n1_:=Aside0.mk (Kd.R_elder' (by (with_reducible repeat (first|apply Kd.R_alloc|apply Kd.R_drewN|apply Kd.R_drew));exact HO343.out) (Kd.R_base ho0) hb);have n2_:=Aside0.mk (Kd.R_lower (Kd.R_new' (Kd.R_new' ho0 (Kd.R_lt (by (with_reducible repeat (first|apply Kd.R_alloc|apply Kd.R_drewN|apply Kd.R_drew));exact HO340.out))) (Kd.R_lt (by (with_reducible repeat (first|apply Kd.R_alloc|apply Kd.R_drewN|apply Kd.R_drew));exact HO343.out))) (below_size (by repeat (first|(with_reducible first|exact HB.out|apply below_alloc|apply pw_below_drewN|apply below_drew1|refine below_set ?_ GE337.out)|exact HB.out))));have n3_:=Aside0.mk (blk_below (g:=gb337) (o:=.cells #[.int .i64 a0_0,.bool true,.int .i64 a0_2,.slice A0_3 l0_3.length c0_3,.slice A0_4 l0_4.length c0_4,.bool a0_5,.bool a0_6] 26 (0,0)) (by (with_reducible repeat (first|refine blk_drewN ?_ _|refine blk_drew ?_|refine blk_alloc ?_ _));exact BK337.out) hb);have n4_:=Aside0.mk (below_step (by repeat (first|(with_reducible first|exact HB.out|apply below_alloc|apply pw_below_drewN|apply below_drew1|refine below_set ?_ GE337.out)|exact HB.out)) hb);clear HO340;clear HO343;clear BK337;clear HB;have HO340:=n0_;have HO343:=n1_;have HO346:=n2_;have BK337:=n3_;have HB:=n4_;clear n0_ n1_ n2_ n3_ n4_;(try clear hb);(try clear hb2);(try clear hk);(try clear hi);(try clear ho0);obtain ⟨Ao15,co15,eo15⟩:=Kd.R_slice HO346.out;subst eo15)|((with_reducible refine gate_builtin (b:=.append) (xs:=#[.tmp 7,.tmp 10]) rfl ?_);at_builtin;refine Kd.R_append_rows (Kd.int .i64) (w0:=w) w.heap.size rfl (.tmp 7) (.tmp 10) 23 3 (.int .i64 0) 8 rfl Try.underlying23 info3 rfl (by decide) (by omega) v342 y341 t344 _ _ _ (fun k_=>some k_ ≠ (v339 : Value).ownBlock∧some k_ ≠ (.slice Ao15 t344.length co15 : Value).ownBlock) (fun _=>False) rfl rfl ?aO ?aR (fun _ _ h=>h) (fun _ h=>h.elim) ?aF ?aB ?aS ?aL ?_;(case aR=>repeat (first|exact (Kd.R_reads' HO346.out).2.2|(with_reducible refine Kd.C_alloc ?_ _)|(with_reducible refine Kd.C_drewN ?_ _)|(with_reducible refine Kd.C_drew ?_)));(case aB=>exact (by repeat (first|(with_reducible first|exact HB.out|apply below_alloc|apply pw_below_drewN|apply below_drew1|refine below_set ?_ GE337.out)|exact HB.out)));(case aF=>exact (fun k_ hk=>⟨Kd.fresh' (Kd.R_lt (by (with_reducible repeat (first|apply Kd.R_alloc|apply Kd.R_drewN|apply Kd.R_drew));exact HO340.out)) k_ hk,Kd.fresh' (Kd.R_lt (by (with_reducible repeat (first|apply Kd.R_alloc|apply Kd.R_drewN|apply Kd.R_drew));exact HO346.out)) k_ hk⟩));(case aO=>exact (by (with_reducible repeat (first|apply Kd.R_alloc|apply Kd.R_drewN|apply Kd.R_drew));exact Kd.R_mono HO343.out (fun _ hk=>⟨hk.1.2,hk.2⟩)));(case aS=>exact (below_size (by repeat (first|(with_reducible first|exact HB.out|apply below_alloc|apply pw_below_drewN|apply below_drew1|refine below_set ?_ GE337.out)|exact HB.out))));(case aL=>have:=LMc9.out;omega);intro v348 w14 ho hb hg hat;rw [← Ny347.out] at ho;have n0_:=Aside0.mk (blk_grown (g:=gb337) (o:=.cells #[.int .i64 a0_0,.bool true,.int .i64 a0_2,.slice A0_3 l0_3.length c0_3,.slice A0_4 l0_4.length c0_4,.bool a0_5,.bool a0_6] 26 (0,0)) (by (with_reducible repeat (first|refine blk_drewN ?_ _|refine blk_drew ?_|refine blk_alloc ?_ _));exact BK337.out) hg (Kd.R_ne HO343.out BK337.out (by decide)));have n1_:=Aside0.mk (Kd.R_after (ok:=(fun k_=>some k_ ≠ (.slice Ao15 t344.length co15 : Value).ownBlock)) (by (with_reducible repeat (first|apply Kd.R_alloc|apply Kd.R_drewN|apply Kd.R_drew));exact Kd.R_mono HO340.out (fun _ hk=>⟨hk.2,hk.1.2⟩)) hg hat);have n2_:=Aside0.mk (Kd.R_after (ok:=(fun k_=>some k_ ≠ (v339 : Value).ownBlock)) (by (with_reducible repeat (first|apply Kd.R_alloc|apply Kd.R_drewN|apply Kd.R_drew));exact Kd.R_mono HO346.out (fun _ hk=>⟨hk.1.2,hk.2⟩)) hg hat);have n3_:=Aside0.mk (hb);have n4_:=Aside0.mk (ho);clear BK337;clear HO340;clear HO346;clear HB;clear HO343;have BK337:=n0_;have HO340:=n1_;have HO346:=n2_;have HB:=n3_;have HO349:=n4_;clear n0_ n1_ n2_ n3_ n4_;clear ho hb hg hat))
    go_meet
    case rel=>exact ⟨_,(y347),H',⟨by first|omega|exact Nat.le_refl _⟩,⟨by (with_reducible repeat (first|apply Kd.R_alloc|apply Kd.R_drewN|apply Kd.R_drew));exact Kd.R_mono HO349.out (fun _ hk=>trivial)⟩,⟨by (with_reducible repeat (first|refine blk_drewN ?_ _|refine blk_drew ?_|refine blk_alloc ?_ _));exact BK337.out⟩,⟨by repeat (first|(with_reducible first|exact HB.out|apply below_alloc|apply pw_below_drewN|apply below_drew1|refine below_set ?_ GE337.out)|exact HB.out)⟩⟩
   ·rw [if_neg c9] at H
    exact absurd H (by simp)
  ·replace c7:=Bool.eq_false_iff.mpr c7
   subst c7
   have H1 : (impl_Old_bytesOf.j0 k y338 a0_0 false a0_2 l0_3 l0_4 a0_5 a0_6)=some r:=by rw [if_neg (show ¬ (false=true) by decide)] at H;exact H
   clear H
   have H:=H1
   clear H1
   have H':=Aside0.mk H
   clear H
   go_wp2
   go_meet
   case rel=>exact ⟨_,(y338),H',⟨by first|omega|exact Nat.le_refl _⟩,⟨by (with_reducible repeat (first|apply Kd.R_alloc|apply Kd.R_drewN|apply Kd.R_drew));exact HO340.out⟩,⟨by (with_reducible repeat (first|refine blk_drewN ?_ _|refine blk_drew ?_|refine blk_alloc ?_ _));exact BK337.out⟩,⟨by repeat (first|(with_reducible first|exact HB.out|apply below_alloc|apply pw_below_drewN|apply below_drew1|refine below_set ?_ GE337.out)|exact HB.out)⟩⟩
 case rest =>
  clear HC2
  try clear p2
  try clear c5
  try clear c7
  try clear c9
  try clear hcz12_0
  try clear hcz12_1
  try clear hcz12_2
  try clear hcz12_3
  try clear hcz12_4
  try clear hcz12_5
  try clear hcz12_6
  try clear hcz6_0
  try clear hcz6_1
  try clear hcz6_2
  try clear hcz6_3
  try clear hcz6_4
  try clear hcz6_5
  try clear hcz6_6
  try clear hfz12_0
  try clear hfz12_1
  try clear hfz12_2
  try clear hfz12_3
  try clear hfz12_4
  try clear hfz12_5
  try clear hfz12_6
  try clear hfz6_0
  try clear hfz6_1
  try clear hfz6_2
  try clear hfz6_3
  try clear hfz6_4
  try clear hfz6_5
  try clear hfz6_6
  obtain ⟨kq,x3_1,HA,HJ1,HO_3,BK337,HB⟩:=hcut
  cases kq with
  | zero=>exact absurd HA.out (by simp [impl_Old_bytesOf.j0])
  | succ kj1 =>
   have H:=HA.out
   clear HA
   simp only [impl_Old_bytesOf.j0] at H
   replace H:=Option.bind_eq_some_iff.mp H
   obtain ⟨t350,A160,H⟩:=H
   replace H : (if x3_1.length + t350.length < 17592186044416 then ((some (x3_1 ++ t350 : List Int)).bind fun y353=>((impl_oldPart.f (!a0_6) l0_4).bind fun t356=>(if y353.length + t356.length < 17592186044416 then ((some (y353 ++ t356 : List Int)).bind fun y359=>((impl_intOf.f kj1 a0_0 3).bind fun t362=>((impl_sum_over.f kj1 1 y359).bind fun t365=>((impl_intOf.f kj1 t365 2).bind fun t366=>((slices_Concat_int_int.f (([t362,t366,y359] : List (List Int)))).bind fun t372=>(some t372)))))) else (none)))) else (none))=some r:=H
   have A16:=Aside0.mk A160
   clear A160
   by_cases c17 : x3_1.length + t350.length < 17592186044416
   ·rw [if_pos c17] at H
    have LMc17:=Aside0.mk c17
    clear c17
    obtain ⟨y353,hy353⟩ : ∃ y_ : List Int,y_=(x3_1 ++ t350):=⟨_,rfl⟩
    replace H : ((impl_oldPart.f (!a0_6) l0_4).bind fun t356=>(if y353.length + t356.length < 17592186044416 then ((some (y353 ++ t356 : List Int)).bind fun y359=>((impl_intOf.f kj1 a0_0 3).bind fun t362=>((impl_sum_over.f kj1 1 y359).bind fun t365=>((impl_intOf.f kj1 t365 2).bind fun t366=>((slices_Concat_int_int.f (([t362,t366,y359] : List (List Int)))).bind fun t372=>(some t372)))))) else (none)))=some r:=by first|(rw [hy353];with_reducible exact H)|(have H2_:=(Option.bind_some _ _).symm.trans H;rw [hy353];with_reducible exact H2_)|(have H2_:=(Option.bind_some _ _).symm.trans H;with_reducible exact H2_)|with_reducible exact H|(rw [hy353];exact H)|exact H
    have Ny353:=Aside0.mk hy353
    clear hy353
    replace H:=Option.bind_eq_some_iff.mp H
    obtain ⟨t356,A180,H⟩:=H
    replace H : (if y353.length + t356.length < 17592186044416 then ((some (y353 ++ t356 : List Int)).bind fun y359=>((impl_intOf.f kj1 a0_0 3).bind fun t362=>((impl_sum_over.f kj1 1 y359).bind fun t365=>((impl_intOf.f kj1 t365 2).bind fun t366=>((slices_Concat_int_int.f (([t362,t366,y359] : List (List Int)))).bind fun t372=>(some t372)))))) else (none))=some r:=H
    have A18:=Aside0.mk A180
    clear A180
    by_cases c19 : y353.length + t356.length < 17592186044416
    ·rw [if_pos c19] at H
     have LMc19:=Aside0.mk c19
     clear c19
     obtain ⟨y359,hy359⟩ : ∃ y_ : List Int,y_=(y353 ++ t356):=⟨_,rfl⟩
     replace H : ((impl_intOf.f kj1 a0_0 3).bind fun t362=>((impl_sum_over.f kj1 1 y359).bind fun t365=>((impl_intOf.f kj1 t365 2).bind fun t366=>((slices_Concat_int_int.f (([t362,t366,y359] : List (List Int)))).bind fun t372=>(some t372)))))=some r:=by first|(rw [hy359];with_reducible exact H)|(have H2_:=(Option.bind_some _ _).symm.trans H;rw [hy359];with_reducible exact H2_)|(have H2_:=(Option.bind_some _ _).symm.trans H;with_reducible exact H2_)|with_reducible exact H|(rw [hy359];exact H)|exact H
     have Ny359:=Aside0.mk hy359
     clear hy359
     replace H:=Option.bind_eq_some_iff.mp H
     obtain ⟨t362,A200,H⟩:=H
     replace H : ((impl_sum_over.f kj1 1 y359).bind fun t365=>((impl_intOf.f kj1 t365 2).bind fun t366=>((slices_Concat_int_int.f (([t362,t366,y359] : List (List Int)))).bind fun t372=>(some t372))))=some r:=H
     have A20:=Aside0.mk A200
     clear A200
     replace H:=Option.bind_eq_some_iff.mp H
     obtain ⟨t365,A210,H⟩:=H
     replace H : ((impl_intOf.f kj1 t365 2).bind fun t366=>((slices_Concat_int_int.f (([t362,t366,y359] : List (List Int)))).bind fun t372=>(some t372)))=some r:=H
     have A21:=Aside0.mk A210
     clear A210
     replace H:=Option.bind_eq_some_iff.mp H
     obtain ⟨t366,A220,H⟩:=H
     replace H : ((slices_Concat_int_int.f (([t362,t366,y359] : List (List Int)))).bind fun t372=>(some t372))=some r:=H
     have A22:=Aside0.mk A220
     clear A220
     obtain ⟨y369,hy369⟩ : ∃ y_ : List (List Int),y_=(([t362,t366,y359] : List (List Int))):=⟨_,rfl⟩
     replace H : ((slices_Concat_int_int.f y369).bind fun t372=>(some t372))=some r:=by first|(rw [hy369];with_reducible exact H)|(have H2_:=(Option.bind_some _ _).symm.trans H;rw [hy369];with_reducible exact H2_)|(have H2_:=(Option.bind_some _ _).symm.trans H;with_reducible exact H2_)|with_reducible exact H|(rw [hy369];exact H)|exact H
     have Ny369:=Aside0.mk hy369
     clear hy369
     replace H:=Option.bind_eq_some_iff.mp H
     obtain ⟨t372,A230,H⟩:=H
     replace H : (some t372)=some r:=H
     have A23:=Aside0.mk A230
     clear A230
     obtain rfl:=Option.some.inj H
     have hcz24_0 : wc.cell? ⟨gb337,0,none⟩ = some (.int .i64 a0_0):=(blk_cell BK337.out 0).trans rfl
     have hcz24_1 : wc.cell? ⟨gb337,1,none⟩ = some (.bool a0_1):=(blk_cell BK337.out 1).trans rfl
     have hcz24_2 : wc.cell? ⟨gb337,2,none⟩ = some (.int .i64 a0_2):=(blk_cell BK337.out 2).trans rfl
     have hcz24_3 : wc.cell? ⟨gb337,3,none⟩ = some (.slice A0_3 l0_3.length c0_3):=(blk_cell BK337.out 3).trans rfl
     have hcz24_4 : wc.cell? ⟨gb337,4,none⟩ = some (.slice A0_4 l0_4.length c0_4):=(blk_cell BK337.out 4).trans rfl
     have hcz24_5 : wc.cell? ⟨gb337,5,none⟩ = some (.bool a0_5):=(blk_cell BK337.out 5).trans rfl
     have hcz24_6 : wc.cell? ⟨gb337,6,none⟩ = some (.bool a0_6):=(blk_cell BK337.out 6).trans rfl
     have hfz24_0:=blk_frozen BK337.out 0
     have hfz24_1:=blk_frozen BK337.out 1
     have hfz24_2:=blk_frozen BK337.out 2
     have hfz24_3:=blk_frozen BK337.out 3
     have hfz24_4:=blk_frozen BK337.out 4
     have hfz24_5:=blk_frozen BK337.out 5
     have hfz24_6:=blk_frozen BK337.out 6
     go_wp2_with (first|((with_reducible refine gate_callee (f:=77) rfl ?_);refine goesL_ (some 17) rfl rfl Try.func77 (by kernel_rfl) rfl #[.bool a0_5,.slice A0_3 l0_3.length c0_3] rfl (by (try simp only [List.map_toArray,List.map_cons,List.map_nil]);first|done|rfl|(simp only [List.length_drop,List.length_take];rfl)) ?_;(with_reducible refine (impl_oldPart.calls a0_5 _ _ l0_3 t350 _ ?side1 ?side2 A16.out).mono ?_);(case side1=>repeat (first|exact (Kd.C_below HR0_3.out HB.out)|(with_reducible refine Kd.C_alloc ?_ _)|(with_reducible refine Kd.C_drewN ?_ _)|(with_reducible refine Kd.C_drew ?_)));(case side2=>exact HC0_3.out);rintro e w25 ⟨v351,rfl,ho0,hb⟩;refine ⟨_,rfl,?_⟩;have n0_:=Aside0.mk (Kd.R_elder' (by (with_reducible repeat (first|apply Kd.R_alloc|apply Kd.R_drewN|apply Kd.R_drew));exact HO_3.out) (Kd.R_base ho0) hb);have n1_:=Aside0.mk (Kd.R_lower (Kd.R_new' ho0 (Kd.R_lt (by (with_reducible repeat (first|apply Kd.R_alloc|apply Kd.R_drewN|apply Kd.R_drew));exact HO_3.out))) (below_size (by repeat (first|(with_reducible first|exact HB.out|apply below_alloc|apply pw_below_drewN|apply below_drew1|refine below_set ?_ GE337.out)|exact HB.out))));have n2_:=Aside0.mk (blk_below (g:=gb337) (o:=.cells #[.int .i64 a0_0,.bool a0_1,.int .i64 a0_2,.slice A0_3 l0_3.length c0_3,.slice A0_4 l0_4.length c0_4,.bool a0_5,.bool a0_6] 26 (0,0)) (by (with_reducible repeat (first|refine blk_drewN ?_ _|refine blk_drew ?_|refine blk_alloc ?_ _));exact BK337.out) hb);have n3_:=Aside0.mk (below_step (by repeat (first|(with_reducible first|exact HB.out|apply below_alloc|apply pw_below_drewN|apply below_drew1|refine below_set ?_ GE337.out)|exact HB.out)) hb);clear HO_3;clear BK337;clear HB;have HO_3:=n0_;have HO352:=n1_;have BK337:=n2_;have HB:=n3_;clear n0_ n1_ n2_ n3_;(try clear hb);(try clear hb2);(try clear hk);(try clear hi);(try clear ho0);obtain ⟨Ao27,co27,eo27⟩:=Kd.R_slice HO352.out;subst eo27)|((with_reducible refine gate_builtin (b:=.append) (xs:=#[.tmp 12,.tmp 17]) rfl ?_);at_builtin;refine Kd.R_append_rows (Kd.int .i64) (w0:=w) w.heap.size rfl (.tmp 12) (.tmp 17) 23 3 (.int .i64 0) 8 rfl Try.underlying23 info3 rfl (by decide) (by omega) u3 x3_1 t350 _ _ _ (fun k_=>some k_ ≠ (.slice Ao27 t350.length co27 : Value).ownBlock) (fun _=>False) rfl rfl ?aO ?aR (fun _ _ h=>h) (fun _ h=>h.elim) ?aF ?aB ?aS ?aL ?_;(case aR=>repeat (first|exact (Kd.R_reads' HO352.out).2.2|(with_reducible refine Kd.C_alloc ?_ _)|(with_reducible refine Kd.C_drewN ?_ _)|(with_reducible refine Kd.C_drew ?_)));(case aB=>exact (by repeat (first|(with_reducible first|exact HB.out|apply below_alloc|apply pw_below_drewN|apply below_drew1|refine below_set ?_ GE337.out)|exact HB.out)));(case aF=>exact (fun k_ hk=>Kd.fresh' (Kd.R_lt (by (with_reducible repeat (first|apply Kd.R_alloc|apply Kd.R_drewN|apply Kd.R_drew));exact HO352.out)) k_ hk));(case aO=>exact (by (with_reducible repeat (first|apply Kd.R_alloc|apply Kd.R_drewN|apply Kd.R_drew));exact Kd.R_mono HO_3.out (fun _ hk=>hk.2)));(case aS=>exact (below_size (by repeat (first|(with_reducible first|exact HB.out|apply below_alloc|apply pw_below_drewN|apply below_drew1|refine below_set ?_ GE337.out)|exact HB.out))));(case aL=>have:=LMc17.out;omega);intro v354 w26 ho hb hg hat;rw [← Ny353.out] at ho;have n0_:=Aside0.mk (blk_grown (g:=gb337) (o:=.cells #[.int .i64 a0_0,.bool a0_1,.int .i64 a0_2,.slice A0_3 l0_3.length c0_3,.slice A0_4 l0_4.length c0_4,.bool a0_5,.bool a0_6] 26 (0,0)) (by (with_reducible repeat (first|refine blk_drewN ?_ _|refine blk_drew ?_|refine blk_alloc ?_ _));exact BK337.out) hg (Kd.R_ne HO_3.out BK337.out (by decide)));have n1_:=Aside0.mk (Kd.R_after (ok:=(fun _=>True)) (by (with_reducible repeat (first|apply Kd.R_alloc|apply Kd.R_drewN|apply Kd.R_drew));exact HO352.out) hg hat);have n2_:=Aside0.mk (hb);have n3_:=Aside0.mk (ho);clear BK337;clear HO352;clear HB;clear HO_3;have BK337:=n0_;have HO352:=n1_;have HB:=n2_;have HO355:=n3_;clear n0_ n1_ n2_ n3_;clear ho hb hg hat;have hcz28_0 : w26.cell? ⟨gb337,0,none⟩ = some (.int .i64 a0_0):=(blk_cell BK337.out 0).trans rfl;have hcz28_1 : w26.cell? ⟨gb337,1,none⟩ = some (.bool a0_1):=(blk_cell BK337.out 1).trans rfl;have hcz28_2 : w26.cell? ⟨gb337,2,none⟩ = some (.int .i64 a0_2):=(blk_cell BK337.out 2).trans rfl;have hcz28_3 : w26.cell? ⟨gb337,3,none⟩ = some (.slice A0_3 l0_3.length c0_3):=(blk_cell BK337.out 3).trans rfl;have hcz28_4 : w26.cell? ⟨gb337,4,none⟩ = some (.slice A0_4 l0_4.length c0_4):=(blk_cell BK337.out 4).trans rfl;have hcz28_5 : w26.cell? ⟨gb337,5,none⟩ = some (.bool a0_5):=(blk_cell BK337.out 5).trans rfl;have hcz28_6 : w26.cell? ⟨gb337,6,none⟩ = some (.bool a0_6):=(blk_cell BK337.out 6).trans rfl;have hfz28_0:=blk_frozen BK337.out 0;have hfz28_1:=blk_frozen BK337.out 1;have hfz28_2:=blk_frozen BK337.out 2;have hfz28_3:=blk_frozen BK337.out 3;have hfz28_4:=blk_frozen BK337.out 4;have hfz28_5:=blk_frozen BK337.out 5;have hfz28_6:=blk_frozen BK337.out 6)|((with_reducible refine gate_callee (f:=77) rfl ?_);refine goesL_ (some 25) rfl rfl Try.func77 (by kernel_rfl) rfl #[.bool (!a0_6),.slice A0_4 l0_4.length c0_4] rfl (by (try simp only [List.map_toArray,List.map_cons,List.map_nil]);first|done|rfl|(simp only [List.length_drop,List.length_take];rfl)) ?_;(with_reducible refine (impl_oldPart.calls (!a0_6) _ _ l0_4 t356 _ ?side1 ?side2 A18.out).mono ?_);(case side1=>repeat (first|exact (Kd.C_below HR0_4.out HB.out)|(with_reducible refine Kd.C_alloc ?_ _)|(with_reducible refine Kd.C_drewN ?_ _)|(with_reducible refine Kd.C_drew ?_)));(case side2=>exact HC0_4.out);rintro e w29 ⟨v357,rfl,ho0,hb⟩;refine ⟨_,rfl,?_⟩;have n0_:=Aside0.mk (Kd.R_elder' (by (with_reducible repeat (first|apply Kd.R_alloc|apply Kd.R_drewN|apply Kd.R_drew));exact HO352.out) (Kd.R_base ho0) hb);have n1_:=Aside0.mk (Kd.R_elder' (by (with_reducible repeat (first|apply Kd.R_alloc|apply Kd.R_drewN|apply Kd.R_drew));exact HO355.out) (Kd.R_base ho0) hb);have n2_:=Aside0.mk (Kd.R_lower (Kd.R_new' (Kd.R_new' ho0 (Kd.R_lt (by (with_reducible repeat (first|apply Kd.R_alloc|apply Kd.R_drewN|apply Kd.R_drew));exact HO352.out))) (Kd.R_lt (by (with_reducible repeat (first|apply Kd.R_alloc|apply Kd.R_drewN|apply Kd.R_drew));exact HO355.out))) (below_size (by repeat (first|(with_reducible first|exact HB.out|apply below_alloc|apply pw_below_drewN|apply below_drew1|refine below_set ?_ GE337.out)|exact HB.out))));have n3_:=Aside0.mk (blk_below (g:=gb337) (o:=.cells #[.int .i64 a0_0,.bool a0_1,.int .i64 a0_2,.slice A0_3 l0_3.length c0_3,.slice A0_4 l0_4.length c0_4,.bool a0_5,.bool a0_6] 26 (0,0)) (by (with_reducible repeat (first|refine blk_drewN ?_ _|refine blk_drew ?_|refine blk_alloc ?_ _));exact BK337.out) hb);have n4_:=Aside0.mk (below_step (by repeat (first|(with_reducible first|exact HB.out|apply below_alloc|apply pw_below_drewN|apply below_drew1|refine below_set ?_ GE337.out)|exact HB.out)) hb);clear HO352;clear HO355;clear BK337;clear HB;have HO352:=n0_;have HO355:=n1_;have HO358:=n2_;have BK337:=n3_;have HB:=n4_;clear n0_ n1_ n2_ n3_ n4_;(try clear hb);(try clear hb2);(try clear hk);(try clear hi);(try clear ho0);obtain ⟨Ao31,co31,eo31⟩:=Kd.R_slice HO358.out;subst eo31)|((with_reducible refine gate_builtin (b:=.append) (xs:=#[.tmp 19,.tmp 25]) rfl ?_);at_builtin;refine Kd.R_append_rows (Kd.int .i64) (w0:=w) w.heap.size rfl (.tmp 19) (.tmp 25) 23 3 (.int .i64 0) 8 rfl Try.underlying23 info3 rfl (by decide) (by omega) v354 y353 t356 _ _ _ (fun k_=>some k_ ≠ (.slice Ao27 t350.length co27 : Value).ownBlock∧some k_ ≠ (.slice Ao31 t356.length co31 : Value).ownBlock) (fun _=>False) rfl rfl ?aO ?aR (fun _ _ h=>h) (fun _ h=>h.elim) ?aF ?aB ?aS ?aL ?_;(case aR=>repeat (first|exact (Kd.R_reads' HO358.out).2.2|(with_reducible refine Kd.C_alloc ?_ _)|(with_reducible refine Kd.C_drewN ?_ _)|(with_reducible refine Kd.C_drew ?_)));(case aB=>exact (by repeat (first|(with_reducible first|exact HB.out|apply below_alloc|apply pw_below_drewN|apply below_drew1|refine below_set ?_ GE337.out)|exact HB.out)));(case aF=>exact (fun k_ hk=>⟨Kd.fresh' (Kd.R_lt (by (with_reducible repeat (first|apply Kd.R_alloc|apply Kd.R_drewN|apply Kd.R_drew));exact HO352.out)) k_ hk,Kd.fresh' (Kd.R_lt (by (with_reducible repeat (first|apply Kd.R_alloc|apply Kd.R_drewN|apply Kd.R_drew));exact HO358.out)) k_ hk⟩));(case aO=>exact (by (with_reducible repeat (first|apply Kd.R_alloc|apply Kd.R_drewN|apply Kd.R_drew));exact HO355.out));(case aS=>exact (below_size (by repeat (first|(with_reducible first|exact HB.out|apply below_alloc|apply pw_below_drewN|apply below_drew1|refine below_set ?_ GE337.out)|exact HB.out))));(case aL=>have:=LMc19.out;omega);intro v360 w30 ho hb hg hat;rw [← Ny359.out] at ho;have n0_:=Aside0.mk (blk_grown (g:=gb337) (o:=.cells #[.int .i64 a0_0,.bool a0_1,.int .i64 a0_2,.slice A0_3 l0_3.length c0_3,.slice A0_4 l0_4.length c0_4,.bool a0_5,.bool a0_6] 26 (0,0)) (by (with_reducible repeat (first|refine blk_drewN ?_ _|refine blk_drew ?_|refine blk_alloc ?_ _));exact BK337.out) hg (Kd.R_ne HO355.out BK337.out (by decide)));have n1_:=Aside0.mk (Kd.R_after (ok:=(fun k_=>some k_ ≠ (.slice Ao31 t356.length co31 : Value).ownBlock)) (by (with_reducible repeat (first|apply Kd.R_alloc|apply Kd.R_drewN|apply Kd.R_drew));exact Kd.R_mono HO352.out (fun _ hk=>⟨hk.2,hk.1.2⟩)) hg hat);have n2_:=Aside0.mk (Kd.R_after (ok:=(fun k_=>some k_ ≠ (.slice Ao27 t350.length co27 : Value).ownBlock)) (by (with_reducible repeat (first|apply Kd.R_alloc|apply Kd.R_drewN|apply Kd.R_drew));exact Kd.R_mono HO358.out (fun _ hk=>⟨hk.1.2,hk.2⟩)) hg hat);have n3_:=Aside0.mk (hb);have n4_:=Aside0.mk (ho);clear BK337;clear HO352;clear HO358;clear HB;clear HO355;have BK337:=n0_;have HO352:=n1_;have HO358:=n2_;have HB:=n3_;have HO361:=n4_;clear n0_ n1_ n2_ n3_ n4_;clear ho hb hg hat;have hcz32_0 : w30.cell? ⟨gb337,0,none⟩ = some (.int .i64 a0_0):=(blk_cell BK337.out 0).trans rfl;have hcz32_1 : w30.cell? ⟨gb337,1,none⟩ = some (.bool a0_1):=(blk_cell BK337.out 1).trans rfl;have hcz32_2 : w30.cell? ⟨gb337,2,none⟩ = some (.int .i64 a0_2):=(blk_cell BK337.out 2).trans rfl;have hcz32_3 : w30.cell? ⟨gb337,3,none⟩ = some (.slice A0_3 l0_3.length c0_3):=(blk_cell BK337.out 3).trans rfl;have hcz32_4 : w30.cell? ⟨gb337,4,none⟩ = some (.slice A0_4 l0_4.length c0_4):=(blk_cell BK337.out 4).trans rfl;have hcz32_5 : w30.cell? ⟨gb337,5,none⟩ = some (.bool a0_5):=(blk_cell BK337.out 5).trans rfl;have hcz32_6 : w30.cell? ⟨gb337,6,none⟩ = some (.bool a0_6):=(blk_cell BK337.out 6).trans rfl;have hfz32_0:=blk_frozen BK337.out 0;have hfz32_1:=blk_frozen BK337.out 1;have hfz32_2:=blk_frozen BK337.out 2;have hfz32_3:=blk_frozen BK337.out 3;have hfz32_4:=blk_frozen BK337.out 4;have hfz32_5:=blk_frozen BK337.out 5;have hfz32_6:=blk_frozen BK337.out 6)|((with_reducible refine gate_callee (f:=76) rfl ?_);refine goesL_ (some 29) rfl rfl Try.func76 (by kernel_rfl) rfl #[.int .i64 a0_0,.int .i64 3] rfl (by (try simp only [List.map_toArray,List.map_cons,List.map_nil]);first|done|rfl|(simp only [List.length_drop,List.length_take];rfl)) ?_;(with_reducible refine (impl_intOf.calls kj1 a0_0 3 t362 _ A20.out).mono ?_);rintro e w33 ⟨v363,rfl,ho0,hb⟩;refine ⟨_,rfl,?_⟩;have n0_:=Aside0.mk (Kd.R_elder' (by (with_reducible repeat (first|apply Kd.R_alloc|apply Kd.R_drewN|apply Kd.R_drew));exact HO352.out) (Kd.R_base ho0) hb);have n1_:=Aside0.mk (Kd.R_elder' (by (with_reducible repeat (first|apply Kd.R_alloc|apply Kd.R_drewN|apply Kd.R_drew));exact HO358.out) (Kd.R_base ho0) hb);have n2_:=Aside0.mk (Kd.R_elder' (by (with_reducible repeat (first|apply Kd.R_alloc|apply Kd.R_drewN|apply Kd.R_drew));exact HO361.out) (Kd.R_base ho0) hb);have n3_:=Aside0.mk (Kd.R_lower (Kd.R_new' (Kd.R_new' (Kd.R_new' ho0 (Kd.R_lt (by (with_reducible repeat (first|apply Kd.R_alloc|apply Kd.R_drewN|apply Kd.R_drew));exact HO352.out))) (Kd.R_lt (by (with_reducible repeat (first|apply Kd.R_alloc|apply Kd.R_drewN|apply Kd.R_drew));exact HO358.out))) (Kd.R_lt (by (with_reducible repeat (first|apply Kd.R_alloc|apply Kd.R_drewN|apply Kd.R_drew));exact HO361.out))) (below_size (by repeat (first|(with_reducible first|exact HB.out|apply below_alloc|apply pw_below_drewN|apply below_drew1|refine below_set ?_ GE337.out)|exact HB.out))));have n4_:=Aside0.mk (blk_below (g:=gb337) (o:=.cells #[.int .i64 a0_0,.bool a0_1,.int .i64 a0_2,.slice A0_3 l0_3.length c0_3,.slice A0_4 l0_4.length c0_4,.bool a0_5,.bool a0_6] 26 (0,0)) (by (with_reducible repeat (first|refine blk_drewN ?_ _|refine blk_drew ?_|refine blk_alloc ?_ _));exact BK337.out) hb);have n5_:=Aside0.mk (below_step (by repeat (first|(with_reducible first|exact HB.out|apply below_alloc|apply pw_below_drewN|apply below_drew1|refine below_set ?_ GE337.out)|exact HB.out)) hb);clear HO352;clear HO358;clear HO361;clear BK337;clear HB;have HO352:=n0_;have HO358:=n1_;have HO361:=n2_;have HO364:=n3_;have BK337:=n4_;have HB:=n5_;clear n0_ n1_ n2_ n3_ n4_ n5_;(try clear hb);(try clear hb2);(try clear hk);(try clear hi);(try clear ho0);obtain ⟨Ao34,co34,eo34⟩:=Kd.R_slice HO361.out;subst eo34)|((with_reducible refine gate_callee (f:=79) rfl ?_);refine goesL_ (some 31) rfl rfl Try.func79 (by kernel_rfl) rfl #[.int .i64 1,.slice Ao34 y359.length co34] rfl (by (try simp only [List.map_toArray,List.map_cons,List.map_nil]);first|done|rfl|(simp only [List.length_drop,List.length_take];rfl)) ?_;(with_reducible refine (impl_sum_over.calls kj1 1 _ _ y359 t365 _ ?side1 ?side2 A21.out).mono ?_);(case side1=>repeat (first|exact (Kd.R_reads' HO361.out).2.2|(with_reducible refine Kd.C_alloc ?_ _)|(with_reducible refine Kd.C_drewN ?_ _)|(with_reducible refine Kd.C_drew ?_)));(case side2=>exact (Kd.R_reads' HO361.out).2.1);rintro e w' ⟨rfl,⟨nd,rfl⟩⟩;refine ⟨_,rfl,?_⟩)|((with_reducible refine gate_callee (f:=76) rfl ?_);refine goesL_ (some 32) rfl rfl Try.func76 (by kernel_rfl) rfl #[.int .i64 t365,.int .i64 2] rfl (by (try simp only [List.map_toArray,List.map_cons,List.map_nil]);first|done|rfl|(simp only [List.length_drop,List.length_take];rfl)) ?_;(with_reducible refine (impl_intOf.calls kj1 t365 2 t366 _ A22.out).mono ?_);rintro e w35 ⟨v367,rfl,ho0,hb⟩;refine ⟨_,rfl,?_⟩;have n0_:=Aside0.mk (Kd.R_elder' (by (with_reducible repeat (first|apply Kd.R_alloc|apply Kd.R_drewN|apply Kd.R_drew));exact HO352.out) (Kd.R_base ho0) hb);have n1_:=Aside0.mk (Kd.R_elder' (by (with_reducible repeat (first|apply Kd.R_alloc|apply Kd.R_drewN|apply Kd.R_drew));exact HO358.out) (Kd.R_base ho0) hb);have n2_:=Aside0.mk (Kd.R_elder' (by (with_reducible repeat (first|apply Kd.R_alloc|apply Kd.R_drewN|apply Kd.R_drew));exact HO361.out) (Kd.R_base ho0) hb);have n3_:=Aside0.mk (Kd.R_elder' (by (with_reducible repeat (first|apply Kd.R_alloc|apply Kd.R_drewN|apply Kd.R_drew));exact HO364.out) (Kd.R_base ho0) hb);have n4_:=Aside0.mk (Kd.R_lower (Kd.R_new' (Kd.R_new' (Kd.R_new' (Kd.R_new' ho0 (Kd.R_lt (by (with_reducible repeat (first|apply Kd.R_alloc|apply Kd.R_drewN|apply Kd.R_drew));exact HO352.out))) (Kd.R_lt (by (with_reducible repeat (first|apply Kd.R_alloc|apply Kd.R_drewN|apply Kd.R_drew));exact HO358.out))) (Kd.R_lt (by (with_reducible repeat (first|apply Kd.R_alloc|apply Kd.R_drewN|apply Kd.R_drew));exact HO361.out))) (Kd.R_lt (by (with_reducible repeat (first|apply Kd.R_alloc|apply Kd.R_drewN|apply Kd.R_drew));exact HO364.out))) (below_size (by repeat (first|(with_reducible first|exact HB.out|apply below_alloc|apply pw_below_drewN|apply below_drew1|refine below_set ?_ GE337.out)|exact HB.out))));have n5_:=Aside0.mk (blk_below (g:=gb337) (o:=.cells #[.int .i64 a0_0,.bool a0_1,.int .i64 a0_2,.slice A0_3 l0_3.length c0_3,.slice A0_4 l0_4.length c0_4,.bool a0_5,.bool a0_6] 26 (0,0)) (by (with_reducible repeat (first|refine blk_drewN ?_ _|refine blk_drew ?_|refine blk_alloc ?_ _));exact BK337.out) hb);have n6_:=Aside0.mk (below_step (by repeat (first|(with_reducible first|exact HB.out|apply below_alloc|apply pw_below_drewN|apply below_drew1|refine below_set ?_ GE337.out)|exact HB.out)) hb);clear HO352;clear HO358;clear HO361;clear HO364;clear BK337;clear HB;have HO352:=n0_;have HO358:=n1_;have HO361:=n2_;have HO364:=n3_;have HO368:=n4_;have BK337:=n5_;have HB:=n6_;clear n0_ n1_ n2_ n3_ n4_ n5_ n6_;(try clear hb);(try clear hb2);(try clear hk);(try clear hi);(try clear ho0);obtain ⟨Ao36,co36,eo36⟩:=Kd.R_slice HO364.out;subst eo36;obtain ⟨Ao37,co37,eo37⟩:=Kd.R_slice HO368.out;subst eo37)|((with_reducible refine gate_dst (N:=34) rfl ?_);refine Kd.N_lit (Kd.slice 3 (Kd.int .i64)) _ 23 ?hg (N':=34) ?hd (xs:=([t362,t366,y359] : List (List Int))) (inner:=[.slice Ao36 t362.length co36,.slice Ao37 t366.length co37,.slice Ao34 y359.length co34]) (ok:=(fun k_=>some k_ ≠ (.slice Ao27 t350.length co27 : Value).ownBlock∧some k_ ≠ (.slice Ao31 t356.length co31 : Value).ownBlock∧k_ ≠ gb337)) (okp:=(fun k_=>some k_ ≠ (.slice Ao27 t350.length co27 : Value).ownBlock∧some k_ ≠ (.slice Ao31 t356.length co31 : Value).ownBlock∧k_ ≠ gb337)) ?hr ?hp (fun _ hk=>hk) ((show ∀ k_,w35.heap.size ≤ k_→(fun k_=>some k_ ≠ (.slice Ao27 t350.length co27 : Value).ownBlock∧some k_ ≠ (.slice Ao31 t356.length co31 : Value).ownBlock∧k_ ≠ gb337) k_ from fun k_ hk=>⟨Kd.fresh' (Kd.R_lt (by (with_reducible repeat (first|apply Kd.R_alloc|apply Kd.R_drewN|apply Kd.R_drew));exact HO352.out)) k_ hk,Kd.fresh' (Kd.R_lt (by (with_reducible repeat (first|apply Kd.R_alloc|apply Kd.R_drewN|apply Kd.R_drew));exact HO358.out)) k_ hk,Kd.freshB (g:=gb337) (o:=.cells #[.int .i64 a0_0,.bool a0_1,.int .i64 a0_2,.slice A0_3 l0_3.length c0_3,.slice A0_4 l0_4.length c0_4,.bool a0_5,.bool a0_6] 26 (0,0)) (by (with_reducible repeat (first|refine blk_drewN ?_ _|refine blk_drew ?_|refine blk_alloc ?_ _));exact BK337.out) k_ hk⟩) _ (Nat.le_refl _)) (Below.refl _ _) (Nat.le_refl _) (by simp) ?_;(case hd=>rfl);(case hg=>rfl);(case hr=>first|(go_simp;done)|(go_simp;rfl));(case hp=>exact (Reps.one (show Kd.FK (Kd.slice 3 (Kd.int .i64)) _ _ t362 [.slice Ao36 t362.length co36] from (Kd.FK_slice_mk (Kd.R_reads' (Kd.R_mono (ok':=(fun k_=>some k_ ≠ (.slice Ao27 t350.length co27 : Value).ownBlock∧some k_ ≠ (.slice Ao31 t356.length co31 : Value).ownBlock∧k_ ≠ gb337)) (Kd.R_types (HO364.out) BK337.out (by decide)) (fun k_ hk=>⟨hk.1.1.1.1.2,⟨hk.1.1.1.2,hk.2⟩⟩))).2.1 (Kd.R_F (Kd.R_mono (ok':=(fun k_=>some k_ ≠ (.slice Ao27 t350.length co27 : Value).ownBlock∧some k_ ≠ (.slice Ao31 t356.length co31 : Value).ownBlock∧k_ ≠ gb337)) (Kd.R_types (HO364.out) BK337.out (by decide)) (fun k_ hk=>⟨hk.1.1.1.1.2,⟨hk.1.1.1.2,hk.2⟩⟩))))) (Reps.one (show Kd.FK (Kd.slice 3 (Kd.int .i64)) _ _ t366 [.slice Ao37 t366.length co37] from (Kd.FK_slice_mk (Kd.R_reads' (Kd.R_mono (ok':=(fun k_=>some k_ ≠ (.slice Ao27 t350.length co27 : Value).ownBlock∧some k_ ≠ (.slice Ao31 t356.length co31 : Value).ownBlock∧k_ ≠ gb337)) (Kd.R_types (HO368.out) BK337.out (by decide)) (fun k_ hk=>⟨hk.1.1.1.1.2,⟨hk.1.1.1.2,hk.2⟩⟩))).2.1 (Kd.R_F (Kd.R_mono (ok':=(fun k_=>some k_ ≠ (.slice Ao27 t350.length co27 : Value).ownBlock∧some k_ ≠ (.slice Ao31 t356.length co31 : Value).ownBlock∧k_ ≠ gb337)) (Kd.R_types (HO368.out) BK337.out (by decide)) (fun k_ hk=>⟨hk.1.1.1.1.2,⟨hk.1.1.1.2,hk.2⟩⟩))))) (Reps.one (show Kd.FK (Kd.slice 3 (Kd.int .i64)) _ _ y359 [.slice Ao34 y359.length co34] from (Kd.FK_slice_mk (Kd.R_reads' (Kd.R_mono (ok':=(fun k_=>some k_ ≠ (.slice Ao27 t350.length co27 : Value).ownBlock∧some k_ ≠ (.slice Ao31 t356.length co31 : Value).ownBlock∧k_ ≠ gb337)) (Kd.R_types (HO361.out) BK337.out (by decide)) (fun k_ hk=>⟨hk.1.1.1.1,⟨hk.1.1.1.2,hk.2⟩⟩))).2.1 (Kd.R_F (Kd.R_mono (ok':=(fun k_=>some k_ ≠ (.slice Ao27 t350.length co27 : Value).ownBlock∧some k_ ≠ (.slice Ao31 t356.length co31 : Value).ownBlock∧k_ ≠ gb337)) (Kd.R_types (HO361.out) BK337.out (by decide)) (fun k_ hk=>⟨hk.1.1.1.1,⟨hk.1.1.1.2,hk.2⟩⟩))))) (Reps.none _ _)))));intro v370 w38 ho39 hb hg_ hnew_;clear hg_ hnew_;(first|rw [← Ny369.out] at ho39|(simp only [Int.reduceToNat] at ho39;rw [← Ny369.out] at ho39));have n0_:=Aside0.mk (Kd.R_below (by (with_reducible repeat (first|apply Kd.R_alloc|apply Kd.R_drewN|apply Kd.R_drew));exact HO352.out) hb);have n1_:=Aside0.mk (Kd.R_below (by (with_reducible repeat (first|apply Kd.R_alloc|apply Kd.R_drewN|apply Kd.R_drew));exact HO358.out) hb);have n2_:=Aside0.mk (Kd.N_lower ho39 (below_size (by repeat (first|(with_reducible first|exact HB.out|apply below_alloc|apply pw_below_drewN|apply below_drew1|refine below_set ?_ GE337.out)|exact HB.out))));have n3_:=Aside0.mk (blk_below (g:=gb337) (o:=.cells #[.int .i64 a0_0,.bool a0_1,.int .i64 a0_2,.slice A0_3 l0_3.length c0_3,.slice A0_4 l0_4.length c0_4,.bool a0_5,.bool a0_6] 26 (0,0)) (by (with_reducible repeat (first|refine blk_drewN ?_ _|refine blk_drew ?_|refine blk_alloc ?_ _));exact BK337.out) hb);have n4_:=Aside0.mk (below_step (by repeat (first|(with_reducible first|exact HB.out|apply below_alloc|apply pw_below_drewN|apply below_drew1|refine below_set ?_ GE337.out)|exact HB.out)) hb);clear HO352;clear HO358;clear BK337;clear HB;clear HO361;clear HO364;clear HO368;have HO352:=n0_;have HO358:=n1_;have HO371:=n2_;have BK337:=n3_;have HB:=n4_;clear n0_ n1_ n2_ n3_ n4_;clear hb ho39;obtain ⟨Ao40,co40,eo40⟩:=Kd.N_slice HO371.out;subst eo40)|((with_reducible refine gate_callee (f:=78) rfl ?_);refine goesL_ (some 35) rfl rfl Try.func78 (by kernel_rfl) rfl #[.slice Ao40 y369.length co40] rfl (by (try simp only [List.map_toArray,List.map_cons,List.map_nil]);first|done|rfl|(simp only [List.length_drop,List.length_take];rfl)) ?_;(with_reducible refine (slices_Concat_int_int.calls _ _ y369 t372 _ ?side1 ?side2 A23.out).mono ?_);(case side1=>repeat (first|exact (Kd.N_reads' HO371.out).2.2|(with_reducible refine Kd.C_alloc ?_ _)|(with_reducible refine Kd.C_drewN ?_ _)|(with_reducible refine Kd.C_drew ?_)));(case side2=>exact (Kd.N_reads' HO371.out).2.1);rintro e w41 ⟨v373,rfl,ho0,hb⟩;refine ⟨_,rfl,?_⟩;have n0_:=Aside0.mk (Kd.R_elder' (by (with_reducible repeat (first|apply Kd.R_alloc|apply Kd.R_drewN|apply Kd.R_drew));exact HO352.out) (Kd.R_base ho0) hb);have n1_:=Aside0.mk (Kd.R_elder' (by (with_reducible repeat (first|apply Kd.R_alloc|apply Kd.R_drewN|apply Kd.R_drew));exact HO358.out) (Kd.R_base ho0) hb);have n2_:=Aside0.mk (Kd.N_elder' (by (with_reducible repeat (first|apply Kd.N_alloc|apply Kd.N_drewN|apply Kd.N_drew));exact HO371.out) (Kd.R_base ho0) hb);have n3_:=Aside0.mk (Kd.R_lower (Kd.R_new' (Kd.R_new' ho0 (Kd.R_lt (by (with_reducible repeat (first|apply Kd.R_alloc|apply Kd.R_drewN|apply Kd.R_drew));exact HO352.out))) (Kd.R_lt (by (with_reducible repeat (first|apply Kd.R_alloc|apply Kd.R_drewN|apply Kd.R_drew));exact HO358.out))) (below_size (by repeat (first|(with_reducible first|exact HB.out|apply below_alloc|apply pw_below_drewN|apply below_drew1|refine below_set ?_ GE337.out)|exact HB.out))));have n4_:=Aside0.mk (blk_below (g:=gb337) (o:=.cells #[.int .i64 a0_0,.bool a0_1,.int .i64 a0_2,.slice A0_3 l0_3.length c0_3,.slice A0_4 l0_4.length c0_4,.bool a0_5,.bool a0_6] 26 (0,0)) (by (with_reducible repeat (first|refine blk_drewN ?_ _|refine blk_drew ?_|refine blk_alloc ?_ _));exact BK337.out) hb);have n5_:=Aside0.mk (below_step (by repeat (first|(with_reducible first|exact HB.out|apply below_alloc|apply pw_below_drewN|apply below_drew1|refine below_set ?_ GE337.out)|exact HB.out)) hb);clear HO352;clear HO358;clear HO371;clear BK337;clear HB;have HO352:=n0_;have HO358:=n1_;have HO371:=n2_;have HO374:=n3_;have BK337:=n4_;have HB:=n5_;clear n0_ n1_ n2_ n3_ n4_ n5_;(try clear hb);(try clear hb2);(try clear hk);(try clear hi);(try clear ho0)))
     go_ret
     exact ⟨_,by first|rfl|(simp [errW_none,errW_some] <;> rfl)|(simp [*,errW_none,errW_some] <;> rfl),by (with_reducible repeat (first|apply Kd.R_alloc|apply Kd.R_drewN|apply Kd.R_drew));exact Kd.R_mono HO374.out (fun _ hk=>trivial),by repeat (first|(with_reducible first|exact HB.out|apply below_alloc|apply pw_below_drewN|apply below_drew1|refine below_set ?_ GE337.out)|exact HB.out)⟩
    ·rw [if_neg c19] at H
     exact absurd H (by simp)
   ·rw [if_neg c17] at H
    exact absurd H (by simp)

end Go.Proofs.Ytmpnedpokdaejaa.QFnOldTorn
