-- Written by this session's program wip/ownprint.py.
import Derived.Test.YtdgpkjjclngamaaQFnBatchPartx0
namespace Go.Proofs.Ytdgpkjjclngamaa.QFnBatchPart
open Go.RowKit Go.Proofs.YtdgpkjjclngamaaW.PrintWords Go.Proofs.YtdgpkjjclngamaaW.PrintLast Go.Proofs.YtdgpkjjclngamaaW.PrintMore
attribute [local go_sem] max2_int min2_int max_two min_two max_three min_three max_four min_four   -- for this text's walks alone
set_option linter.unusedVariables false
set_option linter.unusedSimpArgs false

/-! ### spec_l6In: function 54 -/
def spec_l6In.f (a0 : Int) (a1 : Int) (a2 : Int) : Option (Bool):=if a0 ≥ a1 then (some (decide (a0 ≤ a2))) else (some false)
set_option maxHeartbeats 8000000 in
set_option maxRecDepth 100000 in
theorem spec_l6In.calls (a0 : Int) (a1 : Int) (a2 : Int) (r : Bool) (w : World) (h : spec_l6In.f a0 a1 a2=some r) :
  Calls Try.prog 54 #[.int .i64 a0,.int .i64 a1,.int .i64 a2] w fun e w'=>e = .returned (.bool r)∧Drawn0 w w':=by
 have H : (if a0 ≥ a1 then (some (decide (a0 ≤ a2))) else (some false))=some r:=h
 clear h
 by_cases c4 : a0 ≥ a1
 ·rw [if_pos c4] at H
  have c4b0 : decide (a1 ≤ a0)=true:=decide_eq_true c4
  clear c4
  obtain rfl:=Option.some.inj H
  go_enter Try.func54,Try.ntmps54
  go_wp2
  go_ret
  exact ⟨by first|rfl|(simp;done)|(simp [*];done),by repeat (first|exact Drawn0.refl _|apply Drawn0.step)⟩
 ·rw [if_neg c4] at H
  have c4b0 : decide (a1 ≤ a0)=false:=decide_eq_false c4
  clear c4
  obtain rfl:=Option.some.inj H
  go_enter Try.func54,Try.ntmps54
  go_wp2
  go_ret
  exact ⟨by first|rfl|(simp;done)|(simp [*];done),by repeat (first|exact Drawn0.refl _|apply Drawn0.step)⟩

/-! ### spec_l1Ok: function 63 -/
def spec_l1Ok.l0 : Nat→List Int→Int→Option (Bool)
 | 0,_,_=>none
 | k + 1,x0,x3=>if x3 < (x0.length : Int) then (if 0 ≤ x3 then ((spec_l6In.f (rd x0 x3) 0 255).bind fun t247=>(if t247=true then (spec_l1Ok.l0 k x0 (wrap64 (x3 + 1))) else (some false))) else (none)) else (some true)
def spec_l1Ok.f (k : Nat) (l0 : List Int) : Option (Bool):=spec_l1Ok.l0 k l0 0
theorem spec_l1Ok.mono_l : ∀ k,(∀ y0 y1,LeO (spec_l1Ok.l0 k y0 y1) (spec_l1Ok.l0 (k + 1) y0 y1))
 | 0=>fun _ _ r h=>by simp [spec_l1Ok.l0] at h
 | k + 1=>by
  have ih0:=spec_l1Ok.mono_l k
  ·intro y0 y1
   unfold spec_l1Ok.l0
   repeat' first
   | (with_reducible exact ih0 _ _)
   | (with_reducible exact LeO.refl _)
   | (with_reducible exact LeO.none _)
   | (with_reducible refine LeO.ite ?_ ?_)
   | (with_reducible refine LeO.bind ?_ (fun _=>?_))
   | exact ih0 _ _
   | exact LeO.none _
   | refine LeO.ite ?_ ?_
   | refine LeO.bind ?_ (fun _=>?_)
theorem spec_l1Ok.mono : ∀ a0 k,LeO (spec_l1Ok.f k a0) (spec_l1Ok.f (k + 1) a0):=by
 intro a0 k
 have ih0:=spec_l1Ok.mono_l k
 unfold spec_l1Ok.f
 repeat' first
   | (with_reducible exact ih0 _ _)
   | (with_reducible exact LeO.refl _)
   | (with_reducible exact LeO.none _)
   | (with_reducible refine LeO.ite ?_ ?_)
   | (with_reducible refine LeO.bind ?_ (fun _=>?_))
   | exact ih0 _ _
   | exact LeO.none _
   | refine LeO.ite ?_ ?_
   | refine LeO.bind ?_ (fun _=>?_)
set_option maxHeartbeats 8000000 in
set_option maxRecDepth 100000 in
theorem spec_l1Ok.calls (k : Nat) (A0 : Option Addr) (c0 : Nat) (l0 : List Int) (r : Bool) (w : World) (hr0 : Kd.C (Kd.int .i64) w A0 l0.length l0) (hc0 : l0.length ≤ c0) (h : spec_l1Ok.f k l0=some r) :
  Calls Try.prog 63 #[.slice A0 l0.length c0] w fun e w'=>e = .returned (.bool r)∧Drawn0 w w':=by
 have HR0:=Aside0.mk hr0
 have HC0:=Aside0.mk hc0
 clear hr0 hc0
 have H : (spec_l1Ok.l0 k l0 0)=some r:=h
 clear h
 have H':=Aside0.mk H
 clear H
 go_enter Try.func63,Try.ntmps63
 go_wp2
 go_loopg [3] k (fun kq v3 w'=>∃ (x3_1 : Int),v3 = .int .i64 x3_1∧Aside0 (spec_l1Ok.l0 kq l0 x3_1=some r)∧Aside0 (kq ≤ k)∧Drawn0 w w')
 case atStart=>exact ⟨(0),(by first|rfl|(simp;done)|(simp [*];done)),H',⟨Nat.le_refl _⟩,by repeat (first|exact Drawn0.refl _|apply Drawn0.step)⟩
 case round =>
  clear H'
  obtain ⟨x3_1,rfl,HA,HK1,⟨m1,rfl⟩⟩:=hrel
  cases gk with
  | zero=>exact absurd HA.out (by simp [spec_l1Ok.l0])
  | succ k1 =>
   have H:=HA.out
   clear HA
   simp only [spec_l1Ok.l0] at H
   by_cases c2 : x3_1 < (l0.length : Int)
   ·rw [if_pos c2] at H
    have c2b0 : decide (x3_1 < (l0.length : Int))=true:=decide_eq_true c2
    clear c2
    by_cases c3 : 0 ≤ x3_1
    ·rw [if_pos c3] at H
     have c3b0 : decide (0 ≤ x3_1)=true:=decide_eq_true c3
     clear c3
     replace H:=Option.bind_eq_some_iff.mp H
     obtain ⟨t247,A40,H⟩:=H
     replace H : (if t247=true then (spec_l1Ok.l0 k1 l0 (wrap64 (x3_1 + 1))) else (some false))=some r:=H
     have A4:=Aside0.mk A40
     clear A40
     by_cases c5 : t247=true
     ·subst c5
      have H1 : (spec_l1Ok.l0 k1 l0 (wrap64 (x3_1 + 1)))=some r:=by rw [if_pos rfl] at H;exact H
      clear H
      have H:=H1
      clear H1
      have H':=Aside0.mk H
      clear H
      have p246 : 0 ≤ (x3_1 : Int):=of_decide_eq_true (by first|(with_reducible assumption)|assumption)
      have q246 : x3_1 < (l0.length : Int):=of_decide_eq_true (by first|(with_reducible assumption)|assumption)
      obtain ⟨ad246,e246,hx246_0⟩:=Kd.at_int HR0.out x3_1 p246 q246
      cases e246
      replace p246:=eq_true p246
      replace q246:=eq_true q246
      go_wp2_with (first|((with_reducible refine gate_callee (f:=54) rfl ?_);refine goesL_ (some 14) rfl rfl Try.func54 (by kernel_rfl) rfl #[.int .i64 (rd l0 x3_1),.int .i64 0,.int .i64 255] rfl (by (try simp only [List.map_toArray,List.map_cons,List.map_nil]);first|done|rfl|(simp only [List.length_drop,List.length_take];rfl)) ?_;(with_reducible refine (spec_l6In.calls (rd l0 x3_1) 0 255 true _ A4.out).mono ?_);rintro e w' ⟨rfl,⟨nd,rfl⟩⟩;refine ⟨_,rfl,?_⟩))
      go_roundg k1
      case measure=>have:=HK1.out;omega
      case rel=>exact ⟨(wrap64 (x3_1 + 1)),(by first|rfl|(simp;done)|(simp [*];done)),H',⟨by have:=HK1.out;omega⟩,by repeat (first|exact Drawn0.refl _|apply Drawn0.step)⟩
     ·replace c5:=Bool.eq_false_iff.mpr c5
      subst c5
      have H1 : (some false)=some r:=by rw [if_neg (show ¬ (false=true) by decide)] at H;exact H
      clear H
      have H:=H1
      clear H1
      obtain rfl:=Option.some.inj H
      have p246 : 0 ≤ (x3_1 : Int):=of_decide_eq_true (by first|(with_reducible assumption)|assumption)
      have q246 : x3_1 < (l0.length : Int):=of_decide_eq_true (by first|(with_reducible assumption)|assumption)
      obtain ⟨ad246,e246,hx246_0⟩:=Kd.at_int HR0.out x3_1 p246 q246
      cases e246
      replace p246:=eq_true p246
      replace q246:=eq_true q246
      go_wp2_with (first|((with_reducible refine gate_callee (f:=54) rfl ?_);refine goesL_ (some 14) rfl rfl Try.func54 (by kernel_rfl) rfl #[.int .i64 (rd l0 x3_1),.int .i64 0,.int .i64 255] rfl (by (try simp only [List.map_toArray,List.map_cons,List.map_nil]);first|done|rfl|(simp only [List.length_drop,List.length_take];rfl)) ?_;(with_reducible refine (spec_l6In.calls (rd l0 x3_1) 0 255 false _ A4.out).mono ?_);rintro e w' ⟨rfl,⟨nd,rfl⟩⟩;refine ⟨_,rfl,?_⟩))
      go_ret
      exact ⟨by first|rfl|(simp;done)|(simp [*];done),by repeat (first|exact Drawn0.refl _|apply Drawn0.step)⟩
    ·rw [if_neg c3] at H
     exact absurd H (by simp)
   ·rw [if_neg c2] at H
    have c2b0 : decide (x3_1 < (l0.length : Int))=false:=decide_eq_false c2
    clear c2
    obtain rfl:=Option.some.inj H
    go_wp2
    go_ret
    exact ⟨by first|rfl|(simp;done)|(simp [*];done),by repeat (first|exact Drawn0.refl _|apply Drawn0.step)⟩

/-! ### spec_l3Part: function 55 -/
def spec_l3Part.f (k : Nat) (a0 : Bool) (l1 : List Int) : Option (Bool):=if a0=true then ((spec_l1Ok.f k l1).bind fun t248=>(if t248=true then (some (decide ((l1.length : Int) ≤ 12))) else (some false))) else (if (l1.length : Int)=0 then ((spec_l1Ok.f k l1).bind fun t249=>(if t249=true then (some (decide ((l1.length : Int) ≤ 12))) else (some false))) else (some false))
theorem spec_l3Part.mono : ∀ a0 a1 k,LeO (spec_l3Part.f k a0 a1) (spec_l3Part.f (k + 1) a0 a1):=by
 intro a0 a1 k
 unfold spec_l3Part.f
 repeat' first
   | (with_reducible exact spec_l1Ok.mono _ _)
   | (with_reducible exact LeO.refl _)
   | (with_reducible exact LeO.none _)
   | (with_reducible refine LeO.ite ?_ ?_)
   | (with_reducible refine LeO.bind ?_ (fun _=>?_))
   | exact spec_l1Ok.mono _ _
   | exact LeO.none _
   | refine LeO.ite ?_ ?_
   | refine LeO.bind ?_ (fun _=>?_)
set_option maxHeartbeats 8000000 in
set_option maxRecDepth 100000 in
theorem spec_l3Part.calls (k : Nat) (a0 : Bool) (A1 : Option Addr) (c1 : Nat) (l1 : List Int) (r : Bool) (w : World) (hr1 : Kd.C (Kd.int .i64) w A1 l1.length l1) (hc1 : l1.length ≤ c1) (h : spec_l3Part.f k a0 l1=some r) :
  Calls Try.prog 55 #[.bool a0,.slice A1 l1.length c1] w fun e w'=>e = .returned (.bool r)∧Drawn0 w w':=by
 have HR1:=Aside0.mk hr1
 have HC1:=Aside0.mk hc1
 clear hr1 hc1
 have H : (if a0=true then ((spec_l1Ok.f k l1).bind fun t248=>(if t248=true then (some (decide ((l1.length : Int) ≤ 12))) else (some false))) else (if (l1.length : Int)=0 then ((spec_l1Ok.f k l1).bind fun t249=>(if t249=true then (some (decide ((l1.length : Int) ≤ 12))) else (some false))) else (some false)))=some r:=h
 clear h
 by_cases c3 : a0=true
 ·subst c3
  have H1 : ((spec_l1Ok.f k l1).bind fun t248=>(if t248=true then (some (decide ((l1.length : Int) ≤ 12))) else (some false)))=some r:=by rw [if_pos rfl] at H;exact H
  clear H
  have H:=H1
  clear H1
  replace H:=Option.bind_eq_some_iff.mp H
  obtain ⟨t248,A40,H⟩:=H
  replace H : (if t248=true then (some (decide ((l1.length : Int) ≤ 12))) else (some false))=some r:=H
  have A4:=Aside0.mk A40
  clear A40
  by_cases c5 : t248=true
  ·subst c5
   have H1 : (some (decide ((l1.length : Int) ≤ 12)))=some r:=by rw [if_pos rfl] at H;exact H
   clear H
   have H:=H1
   clear H1
   obtain rfl:=Option.some.inj H
   go_enter Try.func55,Try.ntmps55
   go_wp2_with (first|(go_at_call 63;(with_reducible refine (spec_l1Ok.calls k _ _ l1 true _ ?side1 ?side2 A4.out).mono ?_);(case side1=>repeat (first|exact HR1.out|(with_reducible refine Kd.C_alloc ?_ _)|(with_reducible refine Kd.C_drewN ?_ _)|(with_reducible refine Kd.C_drew ?_)));(case side2=>exact HC1.out);rintro e w' ⟨rfl,⟨nd,rfl⟩⟩))
   go_ret
   exact ⟨by first|rfl|(simp;done)|(simp [*];done),by repeat (first|exact Drawn0.refl _|apply Drawn0.step)⟩
  ·replace c5:=Bool.eq_false_iff.mpr c5
   subst c5
   have H1 : (some false)=some r:=by rw [if_neg (show ¬ (false=true) by decide)] at H;exact H
   clear H
   have H:=H1
   clear H1
   obtain rfl:=Option.some.inj H
   go_enter Try.func55,Try.ntmps55
   go_wp2_with (first|(go_at_call 63;(with_reducible refine (spec_l1Ok.calls k _ _ l1 false _ ?side1 ?side2 A4.out).mono ?_);(case side1=>repeat (first|exact HR1.out|(with_reducible refine Kd.C_alloc ?_ _)|(with_reducible refine Kd.C_drewN ?_ _)|(with_reducible refine Kd.C_drew ?_)));(case side2=>exact HC1.out);rintro e w' ⟨rfl,⟨nd,rfl⟩⟩))
   go_ret
   exact ⟨by first|rfl|(simp;done)|(simp [*];done),by repeat (first|exact Drawn0.refl _|apply Drawn0.step)⟩
 ·replace c3:=Bool.eq_false_iff.mpr c3
  subst c3
  have H1 : (if (l1.length : Int)=0 then ((spec_l1Ok.f k l1).bind fun t249=>(if t249=true then (some (decide ((l1.length : Int) ≤ 12))) else (some false))) else (some false))=some r:=by rw [if_neg (show ¬ (false=true) by decide)] at H;exact H
  clear H
  have H:=H1
  clear H1
  by_cases c6 : (l1.length : Int)=0
  ·rw [if_pos c6] at H
   have c6b0 : ((l1.length : Int) == 0)=true:=beq_iff_eq.mpr c6
   have c6b1 : ((l1.length : Int) != 0)=false:=bne_eq_false_iff_eq.mpr c6
   clear c6
   replace H:=Option.bind_eq_some_iff.mp H
   obtain ⟨t249,A70,H⟩:=H
   replace H : (if t249=true then (some (decide ((l1.length : Int) ≤ 12))) else (some false))=some r:=H
   have A7:=Aside0.mk A70
   clear A70
   by_cases c8 : t249=true
   ·subst c8
    have H1 : (some (decide ((l1.length : Int) ≤ 12)))=some r:=by rw [if_pos rfl] at H;exact H
    clear H
    have H:=H1
    clear H1
    obtain rfl:=Option.some.inj H
    go_enter Try.func55,Try.ntmps55
    go_wp2_with (first|(go_at_call 63;(with_reducible refine (spec_l1Ok.calls k _ _ l1 true _ ?side1 ?side2 A7.out).mono ?_);(case side1=>repeat (first|exact HR1.out|(with_reducible refine Kd.C_alloc ?_ _)|(with_reducible refine Kd.C_drewN ?_ _)|(with_reducible refine Kd.C_drew ?_)));(case side2=>exact HC1.out);rintro e w' ⟨rfl,⟨nd,rfl⟩⟩))
    go_ret
    exact ⟨by first|rfl|(simp;done)|(simp [*];done),by repeat (first|exact Drawn0.refl _|apply Drawn0.step)⟩
   ·replace c8:=Bool.eq_false_iff.mpr c8
    subst c8
    have H1 : (some false)=some r:=by rw [if_neg (show ¬ (false=true) by decide)] at H;exact H
    clear H
    have H:=H1
    clear H1
    obtain rfl:=Option.some.inj H
    go_enter Try.func55,Try.ntmps55
    go_wp2_with (first|(go_at_call 63;(with_reducible refine (spec_l1Ok.calls k _ _ l1 false _ ?side1 ?side2 A7.out).mono ?_);(case side1=>repeat (first|exact HR1.out|(with_reducible refine Kd.C_alloc ?_ _)|(with_reducible refine Kd.C_drewN ?_ _)|(with_reducible refine Kd.C_drew ?_)));(case side2=>exact HC1.out);rintro e w' ⟨rfl,⟨nd,rfl⟩⟩))
    go_ret
    exact ⟨by first|rfl|(simp;done)|(simp [*];done),by repeat (first|exact Drawn0.refl _|apply Drawn0.step)⟩
  ·rw [if_neg c6] at H
   have c6b0 : ((l1.length : Int) == 0)=false:=beq_eq_false_iff_ne.mpr c6
   have c6b1 : ((l1.length : Int) != 0)=true:=bne_iff_ne.mpr c6
   have c6b2 : ¬ (l1 = []):=fun h_=>c6 (by rw [h_];rfl)
   obtain rfl:=Option.some.inj H
   go_enter Try.func55,Try.ntmps55
   go_wp2
   go_ret
   exact ⟨by first|rfl|(simp;done)|(simp [*];done),by repeat (first|exact Drawn0.refl _|apply Drawn0.step)⟩

/-! ### spec_RecordValid: function 16 -/
def spec_RecordValid.f (k : Nat) (a0_0 : Int) (a0_1 : Int) (a0_2 : Bool) (l0_3 : List Int) (a0_4 : Bool) (l0_5 : List Int) : Option (Bool):=(spec_l6In.f a0_0 0 99999).bind fun t251=>(if t251=true then ((spec_l6In.f a0_1 0 99999).bind fun t252=>(if t252=true then ((spec_l3Part.f k a0_2 l0_3).bind fun t253=>(if t253=true then ((spec_l3Part.f k a0_4 l0_5).bind fun t254=>(some t254)) else (some false))) else (some false))) else (some false))
theorem spec_RecordValid.mono : ∀ a0 a1 a2 a3 a4 a5 k,LeO (spec_RecordValid.f k a0 a1 a2 a3 a4 a5) (spec_RecordValid.f (k + 1) a0 a1 a2 a3 a4 a5):=by
 intro a0 a1 a2 a3 a4 a5 k
 unfold spec_RecordValid.f
 repeat' first
   | (with_reducible exact spec_l3Part.mono _ _ _)
   | (with_reducible exact LeO.refl _)
   | (with_reducible exact LeO.none _)
   | (with_reducible refine LeO.ite ?_ ?_)
   | (with_reducible refine LeO.bind ?_ (fun _=>?_))
   | exact spec_l3Part.mono _ _ _
   | exact LeO.none _
   | refine LeO.ite ?_ ?_
   | refine LeO.bind ?_ (fun _=>?_)
set_option maxHeartbeats 8000000 in
set_option maxRecDepth 100000 in
theorem spec_RecordValid.calls (k : Nat) (a0_0 : Int) (a0_1 : Int) (a0_2 : Bool) (A0_3 : Option Addr) (c0_3 : Nat) (l0_3 : List Int) (a0_4 : Bool) (A0_5 : Option Addr) (c0_5 : Nat) (l0_5 : List Int) (r : Bool) (w : World) (hr0_3 : Kd.C (Kd.int .i64) w A0_3 l0_3.length l0_3) (hc0_3 : l0_3.length ≤ c0_3) (hr0_5 : Kd.C (Kd.int .i64) w A0_5 l0_5.length l0_5) (hc0_5 : l0_5.length ≤ c0_5) (h : spec_RecordValid.f k a0_0 a0_1 a0_2 l0_3 a0_4 l0_5=some r) :
  Calls Try.prog 16 #[.agg #[.int .i64 a0_0,.int .i64 a0_1,.bool a0_2,.slice A0_3 l0_3.length c0_3,.bool a0_4,.slice A0_5 l0_5.length c0_5]] w fun e w'=>e = .returned (.bool r)∧Below w.heap.size w w':=by
 have hu27:=Try.underlying27
 have HR0_3:=Aside0.mk hr0_3
 have HC0_3:=Aside0.mk hc0_3
 clear hr0_3 hc0_3
 have HR0_5:=Aside0.mk hr0_5
 have HC0_5:=Aside0.mk hc0_5
 clear hr0_5 hc0_5
 have HB:=Aside0.mk (Below.refl w.heap.size w)
 have H : ((spec_l6In.f a0_0 0 99999).bind fun t251=>(if t251=true then ((spec_l6In.f a0_1 0 99999).bind fun t252=>(if t252=true then ((spec_l3Part.f k a0_2 l0_3).bind fun t253=>(if t253=true then ((spec_l3Part.f k a0_4 l0_5).bind fun t254=>(some t254)) else (some false))) else (some false))) else (some false)))=some r:=h
 clear h
 replace H:=Option.bind_eq_some_iff.mp H
 obtain ⟨t251,A20,H⟩:=H
 replace H : (if t251=true then ((spec_l6In.f a0_1 0 99999).bind fun t252=>(if t252=true then ((spec_l3Part.f k a0_2 l0_3).bind fun t253=>(if t253=true then ((spec_l3Part.f k a0_4 l0_5).bind fun t254=>(some t254)) else (some false))) else (some false))) else (some false))=some r:=H
 have A2:=Aside0.mk A20
 clear A20
 by_cases c3 : t251=true
 ·subst c3
  have H1 : ((spec_l6In.f a0_1 0 99999).bind fun t252=>(if t252=true then ((spec_l3Part.f k a0_2 l0_3).bind fun t253=>(if t253=true then ((spec_l3Part.f k a0_4 l0_5).bind fun t254=>(some t254)) else (some false))) else (some false)))=some r:=by rw [if_pos rfl] at H;exact H
  clear H
  have H:=H1
  clear H1
  replace H:=Option.bind_eq_some_iff.mp H
  obtain ⟨t252,A40,H⟩:=H
  replace H : (if t252=true then ((spec_l3Part.f k a0_2 l0_3).bind fun t253=>(if t253=true then ((spec_l3Part.f k a0_4 l0_5).bind fun t254=>(some t254)) else (some false))) else (some false))=some r:=H
  have A4:=Aside0.mk A40
  clear A40
  by_cases c5 : t252=true
  ·subst c5
   have H1 : ((spec_l3Part.f k a0_2 l0_3).bind fun t253=>(if t253=true then ((spec_l3Part.f k a0_4 l0_5).bind fun t254=>(some t254)) else (some false)))=some r:=by rw [if_pos rfl] at H;exact H
   clear H
   have H:=H1
   clear H1
   replace H:=Option.bind_eq_some_iff.mp H
   obtain ⟨t253,A60,H⟩:=H
   replace H : (if t253=true then ((spec_l3Part.f k a0_4 l0_5).bind fun t254=>(some t254)) else (some false))=some r:=H
   have A6:=Aside0.mk A60
   clear A60
   by_cases c7 : t253=true
   ·subst c7
    have H1 : ((spec_l3Part.f k a0_4 l0_5).bind fun t254=>(some t254))=some r:=by rw [if_pos rfl] at H;exact H
    clear H
    have H:=H1
    clear H1
    replace H:=Option.bind_eq_some_iff.mp H
    obtain ⟨t254,A80,H⟩:=H
    replace H : (some t254)=some r:=H
    have A8:=Aside0.mk A80
    clear A80
    obtain rfl:=Option.some.inj H
    go_enter Try.func16,Try.ntmps16
    go_wp2_with (first|((with_reducible refine gate_dst (N:=1) rfl ?_);refine box_event ?hg (N:=1) ?hd (cs:=#[.int .i64 a0_0,.int .i64 a0_1,.bool a0_2,.slice A0_3 l0_3.length c0_3,.bool a0_4,.slice A0_5 l0_5.length c0_5]) (t:=27) ?hr ?_;(case hd=>rfl);(case hg=>rfl);(case hr=>first|(go_simp;done)|(go_simp;rfl));intro gb250 hg w9 hbox hb;have n0_:=Aside0.mk (below_step (by repeat (first|(with_reducible first|exact HB.out|apply below_alloc|apply pw_below_drewN|apply below_drew1)|exact HB.out)) hb);have n1_:=Aside0.mk (hbox);have n2_:=Aside0.mk ((by rw [hg];exact (below_size (by repeat (first|(with_reducible first|exact HB.out|apply below_alloc|apply pw_below_drewN|apply below_drew1)|exact HB.out))) : w.heap.size ≤ gb250));have n3_:=Aside0.mk ((by rw [hg];exact (below_size (by repeat (first|(with_reducible first|exact HB.out|apply below_alloc|apply pw_below_drewN|apply below_drew1)|exact HB.out))) : w.heap.size ≤ gb250));clear HB;have HB:=n0_;have BK250:=n1_;have GW250:=n2_;have GE250:=n3_;clear n0_ n1_ n2_ n3_;clear hb hbox hg;have hcz10_0 : w9.cell? ⟨gb250,0,none⟩ = some (.int .i64 a0_0):=(blk_cell BK250.out 0).trans rfl;have hcz10_1 : w9.cell? ⟨gb250,1,none⟩ = some (.int .i64 a0_1):=(blk_cell BK250.out 1).trans rfl;have hcz10_2 : w9.cell? ⟨gb250,2,none⟩ = some (.bool a0_2):=(blk_cell BK250.out 2).trans rfl;have hcz10_3 : w9.cell? ⟨gb250,3,none⟩ = some (.slice A0_3 l0_3.length c0_3):=(blk_cell BK250.out 3).trans rfl;have hcz10_4 : w9.cell? ⟨gb250,4,none⟩ = some (.bool a0_4):=(blk_cell BK250.out 4).trans rfl;have hcz10_5 : w9.cell? ⟨gb250,5,none⟩ = some (.slice A0_5 l0_5.length c0_5):=(blk_cell BK250.out 5).trans rfl;have hfz10_0:=blk_frozen BK250.out 0;have hfz10_1:=blk_frozen BK250.out 1;have hfz10_2:=blk_frozen BK250.out 2;have hfz10_3:=blk_frozen BK250.out 3;have hfz10_4:=blk_frozen BK250.out 4;have hfz10_5:=blk_frozen BK250.out 5)|((with_reducible refine gate_callee (f:=54) rfl ?_);refine goesL_ (some 5) rfl rfl Try.func54 (by kernel_rfl) rfl #[.int .i64 a0_0,.int .i64 0,.int .i64 99999] rfl (by (try simp only [List.map_toArray,List.map_cons,List.map_nil]);first|done|rfl|(simp only [List.length_drop,List.length_take];rfl)) ?_;(with_reducible refine (spec_l6In.calls a0_0 0 99999 true _ A2.out).mono ?_);rintro e w' ⟨rfl,⟨nd,rfl⟩⟩;refine ⟨_,rfl,?_⟩)|(go_at_call 54;(with_reducible refine (spec_l6In.calls a0_1 0 99999 true _ A4.out).mono ?_);rintro e w' ⟨rfl,⟨nd,rfl⟩⟩)|(go_at_call 55;(with_reducible refine (spec_l3Part.calls k a0_2 _ _ l0_3 true _ ?side1 ?side2 A6.out).mono ?_);(case side1=>repeat (first|exact (Kd.C_below HR0_3.out (by repeat (first|(with_reducible first|exact HB.out|apply below_alloc|apply pw_below_drewN|apply below_drew1|refine below_set ?_ GE250.out)|exact HB.out)))|(with_reducible refine Kd.C_alloc ?_ _)|(with_reducible refine Kd.C_drewN ?_ _)|(with_reducible refine Kd.C_drew ?_)));(case side2=>exact HC0_3.out);rintro e w' ⟨rfl,⟨nd,rfl⟩⟩)|(go_at_call 55;(with_reducible refine (spec_l3Part.calls k a0_4 _ _ l0_5 t254 _ ?side1 ?side2 A8.out).mono ?_);(case side1=>repeat (first|exact (Kd.C_below HR0_5.out (by repeat (first|(with_reducible first|exact HB.out|apply below_alloc|apply pw_below_drewN|apply below_drew1|refine below_set ?_ GE250.out)|exact HB.out)))|(with_reducible refine Kd.C_alloc ?_ _)|(with_reducible refine Kd.C_drewN ?_ _)|(with_reducible refine Kd.C_drew ?_)));(case side2=>exact HC0_5.out);rintro e w' ⟨rfl,⟨nd,rfl⟩⟩))
    go_ret
    exact ⟨by first|rfl|(simp [errW_none,errW_some] <;> rfl)|(simp [*,errW_none,errW_some] <;> rfl),by repeat (first|(with_reducible first|exact HB.out|apply below_alloc|apply pw_below_drewN|apply below_drew1|refine below_set ?_ GE250.out)|exact HB.out)⟩
   ·replace c7:=Bool.eq_false_iff.mpr c7
    subst c7
    have H1 : (some false)=some r:=by rw [if_neg (show ¬ (false=true) by decide)] at H;exact H
    clear H
    have H:=H1
    clear H1
    obtain rfl:=Option.some.inj H
    go_enter Try.func16,Try.ntmps16
    go_wp2_with (first|((with_reducible refine gate_dst (N:=1) rfl ?_);refine box_event ?hg (N:=1) ?hd (cs:=#[.int .i64 a0_0,.int .i64 a0_1,.bool a0_2,.slice A0_3 l0_3.length c0_3,.bool a0_4,.slice A0_5 l0_5.length c0_5]) (t:=27) ?hr ?_;(case hd=>rfl);(case hg=>rfl);(case hr=>first|(go_simp;done)|(go_simp;rfl));intro gb250 hg w11 hbox hb;have n0_:=Aside0.mk (below_step (by repeat (first|(with_reducible first|exact HB.out|apply below_alloc|apply pw_below_drewN|apply below_drew1)|exact HB.out)) hb);have n1_:=Aside0.mk (hbox);have n2_:=Aside0.mk ((by rw [hg];exact (below_size (by repeat (first|(with_reducible first|exact HB.out|apply below_alloc|apply pw_below_drewN|apply below_drew1)|exact HB.out))) : w.heap.size ≤ gb250));have n3_:=Aside0.mk ((by rw [hg];exact (below_size (by repeat (first|(with_reducible first|exact HB.out|apply below_alloc|apply pw_below_drewN|apply below_drew1)|exact HB.out))) : w.heap.size ≤ gb250));clear HB;have HB:=n0_;have BK250:=n1_;have GW250:=n2_;have GE250:=n3_;clear n0_ n1_ n2_ n3_;clear hb hbox hg;have hcz12_0 : w11.cell? ⟨gb250,0,none⟩ = some (.int .i64 a0_0):=(blk_cell BK250.out 0).trans rfl;have hcz12_1 : w11.cell? ⟨gb250,1,none⟩ = some (.int .i64 a0_1):=(blk_cell BK250.out 1).trans rfl;have hcz12_2 : w11.cell? ⟨gb250,2,none⟩ = some (.bool a0_2):=(blk_cell BK250.out 2).trans rfl;have hcz12_3 : w11.cell? ⟨gb250,3,none⟩ = some (.slice A0_3 l0_3.length c0_3):=(blk_cell BK250.out 3).trans rfl;have hcz12_4 : w11.cell? ⟨gb250,4,none⟩ = some (.bool a0_4):=(blk_cell BK250.out 4).trans rfl;have hcz12_5 : w11.cell? ⟨gb250,5,none⟩ = some (.slice A0_5 l0_5.length c0_5):=(blk_cell BK250.out 5).trans rfl;have hfz12_0:=blk_frozen BK250.out 0;have hfz12_1:=blk_frozen BK250.out 1;have hfz12_2:=blk_frozen BK250.out 2;have hfz12_3:=blk_frozen BK250.out 3;have hfz12_4:=blk_frozen BK250.out 4;have hfz12_5:=blk_frozen BK250.out 5)|((with_reducible refine gate_callee (f:=54) rfl ?_);refine goesL_ (some 5) rfl rfl Try.func54 (by kernel_rfl) rfl #[.int .i64 a0_0,.int .i64 0,.int .i64 99999] rfl (by (try simp only [List.map_toArray,List.map_cons,List.map_nil]);first|done|rfl|(simp only [List.length_drop,List.length_take];rfl)) ?_;(with_reducible refine (spec_l6In.calls a0_0 0 99999 true _ A2.out).mono ?_);rintro e w' ⟨rfl,⟨nd,rfl⟩⟩;refine ⟨_,rfl,?_⟩)|(go_at_call 54;(with_reducible refine (spec_l6In.calls a0_1 0 99999 true _ A4.out).mono ?_);rintro e w' ⟨rfl,⟨nd,rfl⟩⟩)|(go_at_call 55;(with_reducible refine (spec_l3Part.calls k a0_2 _ _ l0_3 false _ ?side1 ?side2 A6.out).mono ?_);(case side1=>repeat (first|exact (Kd.C_below HR0_3.out (by repeat (first|(with_reducible first|exact HB.out|apply below_alloc|apply pw_below_drewN|apply below_drew1|refine below_set ?_ GE250.out)|exact HB.out)))|(with_reducible refine Kd.C_alloc ?_ _)|(with_reducible refine Kd.C_drewN ?_ _)|(with_reducible refine Kd.C_drew ?_)));(case side2=>exact HC0_3.out);rintro e w' ⟨rfl,⟨nd,rfl⟩⟩))
    go_ret
    exact ⟨by first|rfl|(simp [errW_none,errW_some] <;> rfl)|(simp [*,errW_none,errW_some] <;> rfl),by repeat (first|(with_reducible first|exact HB.out|apply below_alloc|apply pw_below_drewN|apply below_drew1|refine below_set ?_ GE250.out)|exact HB.out)⟩
  ·replace c5:=Bool.eq_false_iff.mpr c5
   subst c5
   have H1 : (some false)=some r:=by rw [if_neg (show ¬ (false=true) by decide)] at H;exact H
   clear H
   have H:=H1
   clear H1
   obtain rfl:=Option.some.inj H
   go_enter Try.func16,Try.ntmps16
   go_wp2_with (first|((with_reducible refine gate_dst (N:=1) rfl ?_);refine box_event ?hg (N:=1) ?hd (cs:=#[.int .i64 a0_0,.int .i64 a0_1,.bool a0_2,.slice A0_3 l0_3.length c0_3,.bool a0_4,.slice A0_5 l0_5.length c0_5]) (t:=27) ?hr ?_;(case hd=>rfl);(case hg=>rfl);(case hr=>first|(go_simp;done)|(go_simp;rfl));intro gb250 hg w13 hbox hb;have n0_:=Aside0.mk (below_step (by repeat (first|(with_reducible first|exact HB.out|apply below_alloc|apply pw_below_drewN|apply below_drew1)|exact HB.out)) hb);have n1_:=Aside0.mk (hbox);have n2_:=Aside0.mk ((by rw [hg];exact (below_size (by repeat (first|(with_reducible first|exact HB.out|apply below_alloc|apply pw_below_drewN|apply below_drew1)|exact HB.out))) : w.heap.size ≤ gb250));have n3_:=Aside0.mk ((by rw [hg];exact (below_size (by repeat (first|(with_reducible first|exact HB.out|apply below_alloc|apply pw_below_drewN|apply below_drew1)|exact HB.out))) : w.heap.size ≤ gb250));clear HB;have HB:=n0_;have BK250:=n1_;have GW250:=n2_;have GE250:=n3_;clear n0_ n1_ n2_ n3_;clear hb hbox hg;have hcz14_0 : w13.cell? ⟨gb250,0,none⟩ = some (.int .i64 a0_0):=(blk_cell BK250.out 0).trans rfl;have hcz14_1 : w13.cell? ⟨gb250,1,none⟩ = some (.int .i64 a0_1):=(blk_cell BK250.out 1).trans rfl;have hcz14_2 : w13.cell? ⟨gb250,2,none⟩ = some (.bool a0_2):=(blk_cell BK250.out 2).trans rfl;have hcz14_3 : w13.cell? ⟨gb250,3,none⟩ = some (.slice A0_3 l0_3.length c0_3):=(blk_cell BK250.out 3).trans rfl;have hcz14_4 : w13.cell? ⟨gb250,4,none⟩ = some (.bool a0_4):=(blk_cell BK250.out 4).trans rfl;have hcz14_5 : w13.cell? ⟨gb250,5,none⟩ = some (.slice A0_5 l0_5.length c0_5):=(blk_cell BK250.out 5).trans rfl;have hfz14_0:=blk_frozen BK250.out 0;have hfz14_1:=blk_frozen BK250.out 1;have hfz14_2:=blk_frozen BK250.out 2;have hfz14_3:=blk_frozen BK250.out 3;have hfz14_4:=blk_frozen BK250.out 4;have hfz14_5:=blk_frozen BK250.out 5)|((with_reducible refine gate_callee (f:=54) rfl ?_);refine goesL_ (some 5) rfl rfl Try.func54 (by kernel_rfl) rfl #[.int .i64 a0_0,.int .i64 0,.int .i64 99999] rfl (by (try simp only [List.map_toArray,List.map_cons,List.map_nil]);first|done|rfl|(simp only [List.length_drop,List.length_take];rfl)) ?_;(with_reducible refine (spec_l6In.calls a0_0 0 99999 true _ A2.out).mono ?_);rintro e w' ⟨rfl,⟨nd,rfl⟩⟩;refine ⟨_,rfl,?_⟩)|(go_at_call 54;(with_reducible refine (spec_l6In.calls a0_1 0 99999 false _ A4.out).mono ?_);rintro e w' ⟨rfl,⟨nd,rfl⟩⟩))
   go_ret
   exact ⟨by first|rfl|(simp [errW_none,errW_some] <;> rfl)|(simp [*,errW_none,errW_some] <;> rfl),by repeat (first|(with_reducible first|exact HB.out|apply below_alloc|apply pw_below_drewN|apply below_drew1|refine below_set ?_ GE250.out)|exact HB.out)⟩
 ·replace c3:=Bool.eq_false_iff.mpr c3
  subst c3
  have H1 : (some false)=some r:=by rw [if_neg (show ¬ (false=true) by decide)] at H;exact H
  clear H
  have H:=H1
  clear H1
  obtain rfl:=Option.some.inj H
  go_enter Try.func16,Try.ntmps16
  go_wp2_with (first|((with_reducible refine gate_dst (N:=1) rfl ?_);refine box_event ?hg (N:=1) ?hd (cs:=#[.int .i64 a0_0,.int .i64 a0_1,.bool a0_2,.slice A0_3 l0_3.length c0_3,.bool a0_4,.slice A0_5 l0_5.length c0_5]) (t:=27) ?hr ?_;(case hd=>rfl);(case hg=>rfl);(case hr=>first|(go_simp;done)|(go_simp;rfl));intro gb250 hg w15 hbox hb;have n0_:=Aside0.mk (below_step (by repeat (first|(with_reducible first|exact HB.out|apply below_alloc|apply pw_below_drewN|apply below_drew1)|exact HB.out)) hb);have n1_:=Aside0.mk (hbox);have n2_:=Aside0.mk ((by rw [hg];exact (below_size (by repeat (first|(with_reducible first|exact HB.out|apply below_alloc|apply pw_below_drewN|apply below_drew1)|exact HB.out))) : w.heap.size ≤ gb250));have n3_:=Aside0.mk ((by rw [hg];exact (below_size (by repeat (first|(with_reducible first|exact HB.out|apply below_alloc|apply pw_below_drewN|apply below_drew1)|exact HB.out))) : w.heap.size ≤ gb250));clear HB;have HB:=n0_;have BK250:=n1_;have GW250:=n2_;have GE250:=n3_;clear n0_ n1_ n2_ n3_;clear hb hbox hg;have hcz16_0 : w15.cell? ⟨gb250,0,none⟩ = some (.int .i64 a0_0):=(blk_cell BK250.out 0).trans rfl;have hcz16_1 : w15.cell? ⟨gb250,1,none⟩ = some (.int .i64 a0_1):=(blk_cell BK250.out 1).trans rfl;have hcz16_2 : w15.cell? ⟨gb250,2,none⟩ = some (.bool a0_2):=(blk_cell BK250.out 2).trans rfl;have hcz16_3 : w15.cell? ⟨gb250,3,none⟩ = some (.slice A0_3 l0_3.length c0_3):=(blk_cell BK250.out 3).trans rfl;have hcz16_4 : w15.cell? ⟨gb250,4,none⟩ = some (.bool a0_4):=(blk_cell BK250.out 4).trans rfl;have hcz16_5 : w15.cell? ⟨gb250,5,none⟩ = some (.slice A0_5 l0_5.length c0_5):=(blk_cell BK250.out 5).trans rfl;have hfz16_0:=blk_frozen BK250.out 0;have hfz16_1:=blk_frozen BK250.out 1;have hfz16_2:=blk_frozen BK250.out 2;have hfz16_3:=blk_frozen BK250.out 3;have hfz16_4:=blk_frozen BK250.out 4;have hfz16_5:=blk_frozen BK250.out 5)|((with_reducible refine gate_callee (f:=54) rfl ?_);refine goesL_ (some 5) rfl rfl Try.func54 (by kernel_rfl) rfl #[.int .i64 a0_0,.int .i64 0,.int .i64 99999] rfl (by (try simp only [List.map_toArray,List.map_cons,List.map_nil]);first|done|rfl|(simp only [List.length_drop,List.length_take];rfl)) ?_;(with_reducible refine (spec_l6In.calls a0_0 0 99999 false _ A2.out).mono ?_);rintro e w' ⟨rfl,⟨nd,rfl⟩⟩;refine ⟨_,rfl,?_⟩))
  go_ret
  exact ⟨by first|rfl|(simp [errW_none,errW_some] <;> rfl)|(simp [*,errW_none,errW_some] <;> rfl),by repeat (first|(with_reducible first|exact HB.out|apply below_alloc|apply pw_below_drewN|apply below_drew1|refine below_set ?_ GE250.out)|exact HB.out)⟩

end Go.Proofs.Ytdgpkjjclngamaa.QFnBatchPart
