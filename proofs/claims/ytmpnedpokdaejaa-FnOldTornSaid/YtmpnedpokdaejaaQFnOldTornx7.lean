-- Written by this session's program wip/ownprint.py.
import Derived.Test.YtmpnedpokdaejaaQFnOldTornx0
import Derived.Test.YtmpnedpokdaejaaQFnOldTornx1
import Derived.Test.YtmpnedpokdaejaaQFnOldTornx2
import Derived.Test.YtmpnedpokdaejaaQFnOldTornx6
namespace Go.Proofs.Ytmpnedpokdaejaa.QFnOldTorn
open Go.RowKit Go.Proofs.YtmpnedpokdaejaaW.PrintWords Go.Proofs.YtmpnedpokdaejaaW.PrintLast Go.Proofs.YtmpnedpokdaejaaW.PrintMore
attribute [local go_sem] max2_int min2_int max_two min_two max_three min_three max_four min_four   -- for this text's walks alone
set_option linter.unusedVariables false
set_option linter.unusedSimpArgs false

/-! ### spec_l3Same: function 58 -/
def spec_l3Same.l0 : Nat→List Int→Int→List Int→Int→Option (Bool)
  | 0,_,_,_,_=>none
  | k + 1,x0,x1,x2,x7=>if x7 < (x2.length : Int) then (if 0 ≤ (wrap64 (x1 + x7)) then (if (wrap64 (x1 + x7)) < (x0.length : Int) then (if 0 ≤ x7 then (if (rd x0 (wrap64 (x1 + x7)))=(rd x2 x7) then (spec_l3Same.l0 k x0 x1 x2 (wrap64 (x7 + 1))) else (some false)) else (none)) else (none)) else (none)) else (some true)
def spec_l3Same.f (k : Nat) (l0 : List Int) (a1 : Int) (l2 : List Int) : Option (Bool):=if (wrap64 (a1 + (l2.length : Int))) > (l0.length : Int) then (some false) else (spec_l3Same.l0 k l0 a1 l2 0)
theorem spec_l3Same.mono_l : ∀ k,(∀ y0 y1 y2 y3,LeO (spec_l3Same.l0 k y0 y1 y2 y3) (spec_l3Same.l0 (k + 1) y0 y1 y2 y3))
  | 0=>fun _ _ _ _ r h=>by simp [spec_l3Same.l0] at h
  | k + 1=>by
    have ih0:=spec_l3Same.mono_l k
    · intro y0 y1 y2 y3
      unfold spec_l3Same.l0
      repeat' first
      | (with_reducible exact ih0 _ _ _ _)
      | (with_reducible exact LeO.refl _)
      | (with_reducible exact LeO.none _)
      | (with_reducible refine LeO.ite ?_ ?_)
      | (with_reducible refine LeO.bind ?_ (fun _=>?_))
      | exact ih0 _ _ _ _
      | exact LeO.none _
      | refine LeO.ite ?_ ?_
      | refine LeO.bind ?_ (fun _=>?_)
theorem spec_l3Same.mono : ∀ a0 a1 a2 k,LeO (spec_l3Same.f k a0 a1 a2) (spec_l3Same.f (k + 1) a0 a1 a2):=by
  intro a0 a1 a2 k
  have ih0:=spec_l3Same.mono_l k
  unfold spec_l3Same.f
  repeat' first
      | (with_reducible exact ih0 _ _ _ _)
      | (with_reducible exact LeO.refl _)
      | (with_reducible exact LeO.none _)
      | (with_reducible refine LeO.ite ?_ ?_)
      | (with_reducible refine LeO.bind ?_ (fun _=>?_))
      | exact ih0 _ _ _ _
      | exact LeO.none _
      | refine LeO.ite ?_ ?_
      | refine LeO.bind ?_ (fun _=>?_)
set_option maxHeartbeats 8000000 in
set_option maxRecDepth 100000 in
theorem spec_l3Same.calls (k : Nat) (A0 : Option Addr) (c0 : Nat) (l0 : List Int) (a1 : Int) (A2 : Option Addr) (c2 : Nat) (l2 : List Int) (r : Bool) (w : World) (hr0 : Kd.C (Kd.int .i64) w A0 l0.length l0) (hc0 : l0.length ≤ c0) (hr2 : Kd.C (Kd.int .i64) w A2 l2.length l2) (hc2 : l2.length ≤ c2) (h : spec_l3Same.f k l0 a1 l2=some r) :
    Calls Try.prog 58 #[.slice A0 l0.length c0,.int .i64 a1,.slice A2 l2.length c2] w fun e w'=>e = .returned (.bool r)∧Drawn0 w w':=by
  have HR0:=Aside0.mk hr0
  have HC0:=Aside0.mk hc0
  clear hr0 hc0
  have HR2:=Aside0.mk hr2
  have HC2:=Aside0.mk hc2
  clear hr2 hc2
  have H : (if (wrap64 (a1 + (l2.length : Int))) > (l0.length : Int) then (some false) else (spec_l3Same.l0 k l0 a1 l2 0))=some r:=h
  clear h
  by_cases c4 : (wrap64 (a1 + (l2.length : Int))) > (l0.length : Int)
  · rw [if_pos c4] at H
    have c4b0 : decide ((l0.length : Int) < (wrap64 (a1 + (l2.length : Int))))=true:=decide_eq_true c4
    clear c4
    obtain rfl:=Option.some.inj H
    go_enter Try.func58,Try.ntmps58
    go_wp2
    repeat (go_quiet (fail);try go_wp2)
    go_ret
    exact ⟨by first|rfl|(simp;done)|(simp [*];done),by repeat (first|exact Drawn0.refl _|apply Drawn0.step)⟩
  · rw [if_neg c4] at H
    have c4b0 : decide ((l0.length : Int) < (wrap64 (a1 + (l2.length : Int))))=false:=decide_eq_false c4
    clear c4
    have H':=Aside0.mk H
    clear H
    go_enter Try.func58,Try.ntmps58
    go_wp2
    repeat (go_quiet (fail);try go_wp2)
    go_loopg [7] k (fun kq v7 w'=>∃ (x7_1 : Int),v7 = .int .i64 x7_1∧Aside0 (spec_l3Same.l0 kq l0 a1 l2 x7_1=some r)∧Aside0 (kq ≤ k)∧Drawn0 w w')
    case atStart=>exact ⟨(0),(by first|rfl|(simp;done)|(simp [*];done)),H',⟨Nat.le_refl _⟩,by repeat (first|exact Drawn0.refl _|apply Drawn0.step)⟩
    case round =>
      clear H'
      try clear c2
      try clear p2
      try clear c4
      try clear c4b0
      obtain ⟨x7_1,rfl,HA,HK1,⟨m1,rfl⟩⟩:=hrel
      cases gk with
      | zero=>exact absurd HA.out (by simp [spec_l3Same.l0])
      | succ k1 =>
        have H:=HA.out
        clear HA
        simp only [spec_l3Same.l0] at H
        by_cases c5 : x7_1 < (l2.length : Int)
        · rw [if_pos c5] at H
          have c5b0 : decide (x7_1 < (l2.length : Int))=true:=decide_eq_true c5
          clear c5
          obtain ⟨ji6,hji6⟩ : ∃ j_ : Int,(wrap64 (a1 + x7_1))=j_:=⟨_,rfl⟩
          replace H : (if 0 ≤ (ji6) then (if (ji6) < (l0.length : Int) then (if 0 ≤ x7_1 then (if (rd l0 (ji6))=(rd l2 x7_1) then (spec_l3Same.l0 k1 l0 a1 l2 (wrap64 (x7_1 + 1))) else (some false)) else (none)) else (none)) else (none))=some r:=by first|(rw [hji6] at H;exact H)|(simp only [hji6] at H ⊢;exact H)
          have hji6w : (IntKind.i64.wrap (a1 + x7_1))=ji6:=(i64_w _).trans hji6
          by_cases c7 : 0 ≤ (ji6)
          · rw [if_pos c7] at H
            have c7b0 : decide (0 ≤ (ji6))=true:=decide_eq_true c7
            clear c7
            by_cases c8 : (ji6) < (l0.length : Int)
            · rw [if_pos c8] at H
              have c8b0 : decide ((ji6) < (l0.length : Int))=true:=decide_eq_true c8
              clear c8
              by_cases c9 : 0 ≤ x7_1
              · rw [if_pos c9] at H
                have c9b0 : decide (0 ≤ x7_1)=true:=decide_eq_true c9
                clear c9
                by_cases c10 : (rd l0 (ji6))=(rd l2 x7_1)
                · rw [if_pos c10] at H
                  have c10b0 : ((rd l0 (ji6)) == (rd l2 x7_1))=true:=beq_iff_eq.mpr c10
                  have c10b1 : ((rd l0 (ji6)) != (rd l2 x7_1))=false:=bne_eq_false_iff_eq.mpr c10
                  clear c10
                  have H':=Aside0.mk H
                  clear H
                  have p394 : 0 ≤ ((ji6) : Int):=of_decide_eq_true (by first|(with_reducible assumption)|assumption)
                  have q394 : (ji6) < (l0.length : Int):=of_decide_eq_true (by first|(with_reducible assumption)|assumption)
                  obtain ⟨ad394,e394,hx394_0⟩:=Kd.at_int HR0.out (ji6) p394 q394
                  cases e394
                  replace p394:=eq_true p394
                  replace q394:=eq_true q394
                  have p395 : 0 ≤ (x7_1 : Int):=of_decide_eq_true (by first|(with_reducible assumption)|assumption)
                  have q395 : x7_1 < (l2.length : Int):=of_decide_eq_true (by first|(with_reducible assumption)|assumption)
                  obtain ⟨ad395,e395,hx395_0⟩:=Kd.at_int HR2.out x7_1 p395 q395
                  cases e395
                  replace p395:=eq_true p395
                  replace q395:=eq_true q395
                  go_wp2
                  repeat (go_quiet (fail);try go_wp2)
                  go_roundg k1
                  case measure=>have:=HK1.out;omega
                  case rel=>exact ⟨(wrap64 (x7_1 + 1)),(by first|rfl|(simp;done)|(simp [*];done)),H',⟨by have:=HK1.out;omega⟩,by repeat (first|exact Drawn0.refl _|apply Drawn0.step)⟩
                · rw [if_neg c10] at H
                  have c10b0 : ((rd l0 (ji6)) == (rd l2 x7_1))=false:=beq_eq_false_iff_ne.mpr c10
                  have c10b1 : ((rd l0 (ji6)) != (rd l2 x7_1))=true:=bne_iff_ne.mpr c10
                  obtain rfl:=Option.some.inj H
                  have p394 : 0 ≤ ((ji6) : Int):=of_decide_eq_true (by first|(with_reducible assumption)|assumption)
                  have q394 : (ji6) < (l0.length : Int):=of_decide_eq_true (by first|(with_reducible assumption)|assumption)
                  obtain ⟨ad394,e394,hx394_0⟩:=Kd.at_int HR0.out (ji6) p394 q394
                  cases e394
                  replace p394:=eq_true p394
                  replace q394:=eq_true q394
                  have p395 : 0 ≤ (x7_1 : Int):=of_decide_eq_true (by first|(with_reducible assumption)|assumption)
                  have q395 : x7_1 < (l2.length : Int):=of_decide_eq_true (by first|(with_reducible assumption)|assumption)
                  obtain ⟨ad395,e395,hx395_0⟩:=Kd.at_int HR2.out x7_1 p395 q395
                  cases e395
                  replace p395:=eq_true p395
                  replace q395:=eq_true q395
                  go_wp2
                  repeat (go_quiet (fail);try go_wp2)
                  go_ret
                  exact ⟨by first|rfl|(simp;done)|(simp only [← hji6] <;> (first|rfl|simp))|(simp [*];done),by repeat (first|exact Drawn0.refl _|apply Drawn0.step)⟩
              · rw [if_neg c9] at H
                exact absurd H (by simp)
            · rw [if_neg c8] at H
              exact absurd H (by simp)
          · rw [if_neg c7] at H
            exact absurd H (by simp)
        · rw [if_neg c5] at H
          have c5b0 : decide (x7_1 < (l2.length : Int))=false:=decide_eq_false c5
          clear c5
          obtain rfl:=Option.some.inj H
          go_wp2
          repeat (go_quiet (fail);try go_wp2)
          go_ret
          exact ⟨by first|rfl|(simp;done)|(simp [*];done),by repeat (first|exact Drawn0.refl _|apply Drawn0.step)⟩

/-! ### spec_OldFrom: function 17 -/
theorem sold_set7 {w : World} {g : Nat} {a0 a1 a2 a3 a4 a5 a6 : Value} (h : w.heap[g]? = some (.cells #[a0,a1,a2,a3,a4,a5,a6] 26 (0,0))) (b0 b1 b2 b3 b4 b5 b6 : Value) :
    (((((((w.setCell ⟨g,0,none⟩ b0).setCell ⟨g,1,none⟩ b1).setCell ⟨g,2,none⟩ b2).setCell ⟨g,3,none⟩ b3).setCell ⟨g,4,none⟩ b4).setCell ⟨g,5,none⟩ b5).setCell ⟨g,6,none⟩ b6).heap[g]? = some (.cells #[b0,b1,b2,b3,b4,b5,b6] 26 (0,0)):=by
  have h0 : (w.setCell ⟨g,0,none⟩ b0).heap[g]? = some (.cells #[b0,a1,a2,a3,a4,a5,a6] 26 (0,0)):=blk_put (cs:=#[a0,a1,a2,a3,a4,a5,a6]) (cs':=#[b0,a1,a2,a3,a4,a5,a6]) h 0 b0 rfl
  generalize w.setCell ⟨g,0,none⟩ b0=W0 at h0 ⊢
  have h1 : (W0.setCell ⟨g,1,none⟩ b1).heap[g]? = some (.cells #[b0,b1,a2,a3,a4,a5,a6] 26 (0,0)):=blk_put (cs:=#[b0,a1,a2,a3,a4,a5,a6]) (cs':=#[b0,b1,a2,a3,a4,a5,a6]) h0 1 b1 rfl
  generalize W0.setCell ⟨g,1,none⟩ b1=W1 at h1 ⊢
  have h2 : (W1.setCell ⟨g,2,none⟩ b2).heap[g]? = some (.cells #[b0,b1,b2,a3,a4,a5,a6] 26 (0,0)):=blk_put (cs:=#[b0,b1,a2,a3,a4,a5,a6]) (cs':=#[b0,b1,b2,a3,a4,a5,a6]) h1 2 b2 rfl
  generalize W1.setCell ⟨g,2,none⟩ b2=W2 at h2 ⊢
  have h3 : (W2.setCell ⟨g,3,none⟩ b3).heap[g]? = some (.cells #[b0,b1,b2,b3,a4,a5,a6] 26 (0,0)):=blk_put (cs:=#[b0,b1,b2,a3,a4,a5,a6]) (cs':=#[b0,b1,b2,b3,a4,a5,a6]) h2 3 b3 rfl
  generalize W2.setCell ⟨g,3,none⟩ b3=W3 at h3 ⊢
  have h4 : (W3.setCell ⟨g,4,none⟩ b4).heap[g]? = some (.cells #[b0,b1,b2,b3,b4,a5,a6] 26 (0,0)):=blk_put (cs:=#[b0,b1,b2,b3,a4,a5,a6]) (cs':=#[b0,b1,b2,b3,b4,a5,a6]) h3 4 b4 rfl
  generalize W3.setCell ⟨g,4,none⟩ b4=W4 at h4 ⊢
  have h5 : (W4.setCell ⟨g,5,none⟩ b5).heap[g]? = some (.cells #[b0,b1,b2,b3,b4,b5,a6] 26 (0,0)):=blk_put (cs:=#[b0,b1,b2,b3,b4,a5,a6]) (cs':=#[b0,b1,b2,b3,b4,b5,a6]) h4 5 b5 rfl
  generalize W4.setCell ⟨g,5,none⟩ b5=W5 at h5 ⊢
  have h6 : (W5.setCell ⟨g,6,none⟩ b6).heap[g]? = some (.cells #[b0,b1,b2,b3,b4,b5,b6] 26 (0,0)):=blk_put (cs:=#[b0,b1,b2,b3,b4,b5,a6]) (cs':=#[b0,b1,b2,b3,b4,b5,b6]) h5 6 b6 rfl
  generalize W5.setCell ⟨g,6,none⟩ b6=W6 at h6 ⊢
  exact h6
theorem sof_end {R : Ending→World→Prop} {tmps : Array Value} {w : World} (g : Nat) (cs : Array Value) (b : Bool) (hp : tmps.getD 2 undef = .pointer (some ⟨g,0,none⟩)) (hq : tmps.getD 3 undef = .bool b) (hs : cs.size=7)
    (hg : w.heap[g]? = some (.cells cs 26 (0,0))) (hR : R (.returned (.tuple #[.agg cs,.bool b])) w) : bodyPost Try.prog Try.f17 R .ret ⟨tmps,[]⟩ w:=by
  refine bodyPost_ret (results_ct (fn:=Try.f17) (p:=2) (u:=3) (ty:=26) rfl tmps w g 26 cs (0,0) _ hp hg Try.underlying26 rfl (by rw [hs];kernel_rfl)) rfl ?_
  rw [hq]
  exact hR
theorem sdrawn_blk {w w1 : World} {g : Nat} {o : Obj} (h : w.heap[g]? = some o) (hd : Drawn0 w w1) : w1.heap[g]? = some o:=by
  obtain ⟨n,rfl⟩:=hd
  exact blk_drewN h n
theorem sdrawn_below {n : Nat} {w0 w w1 : World} (h : Below n w0 w) (hd : Drawn0 w w1) : Below n w0 w1:=by
  obtain ⟨m,rfl⟩:=hd
  exact pw_below_drewN h m
theorem sR_flat_int {w : World} {base : Nat} {ok ok' : Nat→Prop} {v : Value} {xs : List Int} (h : Kd.R (Kd.int .i64) 3 w base ok v xs) (hok : ∀ k,v.ownBlock=some k→ok k→ok' k) : Kd.R (Kd.int .i64) 3 w base ok' v xs :=
  ⟨fun k hk=>hok k hk (h.1 k hk),h.2.imp_ (fun _ _ hp=>hp)⟩
theorem sR_own_reads {w : World} {base : Nat} {ok : Nat→Prop} {A : Option Addr} {c : Nat} {xs : List Int} (h : Kd.R (Kd.int .i64) 3 w base ok (.slice A xs.length c) xs) : xs.length ≤ c∧Kd.C (Kd.int .i64) w A xs.length xs:=by
  obtain ⟨A',c',e,hl,hC⟩:=Kd.R_reads h
  cases e
  exact ⟨hl,hC⟩
theorem snot26 : ∀ q,q ∈ (3 : Nat) :: (Kd.int .i64).E→q ≠ 26:=by
  intro q hq
  simp [Kd.int,Kd.scalar] at hq
  omega
theorem sR_set26 {w : World} {base : Nat} {ok : Nat→Prop} {v : Value} {xs : List Int} (h : Kd.R (Kd.int .i64) 3 w base ok v xs) {g : Nat} {cells : Array Value} (hb : w.heap[g]? = some (.cells cells 26 (0,0))) (j : Nat) (u : Value) : Kd.R (Kd.int .i64) 3 (w.setCell ⟨g,j,none⟩ u) base ok v xs :=
  Kd.R_set h hb snot26 j u
theorem sR_set7 {w : World} {g base : Nat} {ok : Nat→Prop} {v : Value} {xs : List Int} {a0 a1 a2 a3 a4 a5 a6 : Value} (h : w.heap[g]? = some (.cells #[a0,a1,a2,a3,a4,a5,a6] 26 (0,0))) (r : Kd.R (Kd.int .i64) 3 w base ok v xs) (b0 b1 b2 b3 b4 b5 b6 : Value) :
    Kd.R (Kd.int .i64) 3 (((((((w.setCell ⟨g,0,none⟩ b0).setCell ⟨g,1,none⟩ b1).setCell ⟨g,2,none⟩ b2).setCell ⟨g,3,none⟩ b3).setCell ⟨g,4,none⟩ b4).setCell ⟨g,5,none⟩ b5).setCell ⟨g,6,none⟩ b6) base ok v xs:=by
  have r0:=sR_set26 r h 0 b0
  have h0 : (w.setCell ⟨g,0,none⟩ b0).heap[g]? = some (.cells #[b0,a1,a2,a3,a4,a5,a6] 26 (0,0)):=blk_put (cs:=#[a0,a1,a2,a3,a4,a5,a6]) (cs':=#[b0,a1,a2,a3,a4,a5,a6]) h 0 b0 rfl
  generalize w.setCell ⟨g,0,none⟩ b0=W0 at h0 r0 ⊢
  have r1:=sR_set26 r0 h0 1 b1
  have h1 : (W0.setCell ⟨g,1,none⟩ b1).heap[g]? = some (.cells #[b0,b1,a2,a3,a4,a5,a6] 26 (0,0)):=blk_put (cs:=#[b0,a1,a2,a3,a4,a5,a6]) (cs':=#[b0,b1,a2,a3,a4,a5,a6]) h0 1 b1 rfl
  generalize W0.setCell ⟨g,1,none⟩ b1=W1 at h1 r1 ⊢
  have r2:=sR_set26 r1 h1 2 b2
  have h2 : (W1.setCell ⟨g,2,none⟩ b2).heap[g]? = some (.cells #[b0,b1,b2,a3,a4,a5,a6] 26 (0,0)):=blk_put (cs:=#[b0,b1,a2,a3,a4,a5,a6]) (cs':=#[b0,b1,b2,a3,a4,a5,a6]) h1 2 b2 rfl
  generalize W1.setCell ⟨g,2,none⟩ b2=W2 at h2 r2 ⊢
  have r3:=sR_set26 r2 h2 3 b3
  have h3 : (W2.setCell ⟨g,3,none⟩ b3).heap[g]? = some (.cells #[b0,b1,b2,b3,a4,a5,a6] 26 (0,0)):=blk_put (cs:=#[b0,b1,b2,a3,a4,a5,a6]) (cs':=#[b0,b1,b2,b3,a4,a5,a6]) h2 3 b3 rfl
  generalize W2.setCell ⟨g,3,none⟩ b3=W3 at h3 r3 ⊢
  have r4:=sR_set26 r3 h3 4 b4
  have h4 : (W3.setCell ⟨g,4,none⟩ b4).heap[g]? = some (.cells #[b0,b1,b2,b3,b4,a5,a6] 26 (0,0)):=blk_put (cs:=#[b0,b1,b2,b3,a4,a5,a6]) (cs':=#[b0,b1,b2,b3,b4,a5,a6]) h3 4 b4 rfl
  generalize W3.setCell ⟨g,4,none⟩ b4=W4 at h4 r4 ⊢
  have r5:=sR_set26 r4 h4 5 b5
  have h5 : (W4.setCell ⟨g,5,none⟩ b5).heap[g]? = some (.cells #[b0,b1,b2,b3,b4,b5,a6] 26 (0,0)):=blk_put (cs:=#[b0,b1,b2,b3,b4,a5,a6]) (cs':=#[b0,b1,b2,b3,b4,b5,a6]) h4 5 b5 rfl
  generalize W4.setCell ⟨g,5,none⟩ b5=W5 at h5 r5 ⊢
  have r6:=sR_set26 r5 h5 6 b6
  have h6 : (W5.setCell ⟨g,6,none⟩ b6).heap[g]? = some (.cells #[b0,b1,b2,b3,b4,b5,b6] 26 (0,0)):=blk_put (cs:=#[b0,b1,b2,b3,b4,b5,a6]) (cs':=#[b0,b1,b2,b3,b4,b5,b6]) h5 6 b6 rfl
  generalize W5.setCell ⟨g,6,none⟩ b6=W6 at h6 r6 ⊢
  exact r6
theorem sfar7 {w : World} {g h : Nat} {t : TypeId} {cs : Array Value} (e : w.heap[g]? = some (.cells cs t (0,0))) (ne : g ≠ h) (b0 b1 b2 b3 b4 b5 b6 : Value) :
    (((((((w.setCell ⟨h,0,none⟩ b0).setCell ⟨h,1,none⟩ b1).setCell ⟨h,2,none⟩ b2).setCell ⟨h,3,none⟩ b3).setCell ⟨h,4,none⟩ b4).setCell ⟨h,5,none⟩ b5).setCell ⟨h,6,none⟩ b6).heap[g]? = some (.cells cs t (0,0)):=by
  have e0:=blk_far (p:=⟨h,0,none⟩) e ne b0
  generalize w.setCell ⟨h,0,none⟩ b0=W0 at e0 ⊢
  have e1:=blk_far (p:=⟨h,1,none⟩) e0 ne b1
  generalize W0.setCell ⟨h,1,none⟩ b1=W1 at e1 ⊢
  have e2:=blk_far (p:=⟨h,2,none⟩) e1 ne b2
  generalize W1.setCell ⟨h,2,none⟩ b2=W2 at e2 ⊢
  have e3:=blk_far (p:=⟨h,3,none⟩) e2 ne b3
  generalize W2.setCell ⟨h,3,none⟩ b3=W3 at e3 ⊢
  have e4:=blk_far (p:=⟨h,4,none⟩) e3 ne b4
  generalize W3.setCell ⟨h,4,none⟩ b4=W4 at e4 ⊢
  have e5:=blk_far (p:=⟨h,5,none⟩) e4 ne b5
  generalize W4.setCell ⟨h,5,none⟩ b5=W5 at e5 ⊢
  have e6:=blk_far (p:=⟨h,6,none⟩) e5 ne b6
  generalize W5.setCell ⟨h,6,none⟩ b6=W6 at e6 ⊢
  exact e6
abbrev SOldR:=Int × Bool × Int × List Int × List Int × Bool × Bool × Bool
def spec_OldFrom.z : SOldR:=(0,false,0,([] : List Int),([] : List Int),false,false,false)
def spec_OldFrom.t2 (k : Nat) (l0 : List Int) (o : Int) (td : Bool) (tm : Int) (q1 : Bool) (key : List Int) (nx : Int) : Option SOldR :=
  (spec_l11Get.f l0 nx).bind fun p=>if p.2.2.2=true then
     (spec_OldValid.f k o td tm key p.2.1 q1 (!p.1)).bind fun v=>if v=true then (spec_l11Bytes.f k o td tm key p.2.1 q1 (!p.1)).bind fun b=>(spec_l3Same.f k l0 0 b).bind fun e=>if e=true then (spec_l11Bytes.f k o td tm key p.2.1 q1 (!p.1)).bind fun b2=>if (b2.length : Int)=(l0.length : Int) then some (o,td,tm,key,p.2.1,q1, !p.1,true) else some spec_OldFrom.z else some spec_OldFrom.z else some spec_OldFrom.z
   else some spec_OldFrom.z
def spec_OldFrom.t1 (k : Nat) (l0 : List Int) (o : Int) (td : Bool) (tm : Int) (at_ : Int) : Option SOldR :=
  (spec_l11Get.f l0 at_).bind fun p=>if p.2.2.2=true then spec_OldFrom.t2 k l0 o td tm p.1 p.2.1 p.2.2.1 else some spec_OldFrom.z
def spec_OldFrom.t0 (k : Nat) (l0 : List Int) : Option SOldR :=
  (spec_l2From.f k l0 0 3).bind fun o=>if rd l0 5=1 then (spec_l2From.f k l0 6 3).bind fun t=>spec_OldFrom.t1 k l0 o true t 9 else spec_OldFrom.t1 k l0 o false 0 6
def spec_OldFrom.f (k : Nat) (l0 : List Int) : Option SOldR :=
  (spec_l1Ok.f k l0).bind fun t=>if t=true then (if (l0.length : Int) < 8 then some spec_OldFrom.z else if rd l0 5=1 then (if (l0.length : Int) < 11 then some spec_OldFrom.z else spec_OldFrom.t0 k l0) else spec_OldFrom.t0 k l0) else some spec_OldFrom.z
theorem spec_OldFrom.mono : ∀ a0 k,LeO (spec_OldFrom.f k a0) (spec_OldFrom.f (k + 1) a0):=by
  intro a0 k
  unfold spec_OldFrom.f spec_OldFrom.t0 spec_OldFrom.t1 spec_OldFrom.t2
  repeat' first
      | (with_reducible exact spec_l1Ok.mono _ _)
      | (with_reducible exact spec_l2From.mono _ _ _ _)
      | (with_reducible exact spec_OldValid.mono _ _ _ _ _ _ _ _)
      | (with_reducible exact spec_l11Bytes.mono _ _ _ _ _ _ _ _)
      | (with_reducible exact spec_l3Same.mono _ _ _ _)
      | (with_reducible exact LeO.refl _)
      | (with_reducible exact LeO.none _)
      | (with_reducible refine LeO.ite ?_ ?_)
      | (with_reducible refine LeO.bind ?_ (fun _=>?_))
set_option maxHeartbeats 1600000 in
set_option maxRecDepth 100000 in
theorem spec_OldFrom.calls (k : Nat) (A0 : Option Addr) (c0 : Nat) (l0 : List Int) (r1 : Int) (r2 : Bool) (r3 : Int) (r4 : List Int) (r5 : List Int) (r6 : Bool) (r7 : Bool) (r8 : Bool) (w : World) (hr0 : Kd.C (Kd.int .i64) w A0 l0.length l0) (hc0 : l0.length ≤ c0) (h : spec_OldFrom.f k l0=some (r1,r2,r3,r4,r5,r6,r7,r8)) :
    Calls Try.prog 17 #[.slice A0 l0.length c0] w fun e w'=>∃ v3_ v4_ : Value,e = .returned (.tuple #[.agg #[.int .i64 r1,.bool r2,.int .i64 r3,v3_,v4_,.bool r6,.bool r7],.bool r8])∧Kd.R (Kd.int .i64) 3 w' w.heap.size (fun k_=>some k_ ≠ (v4_ : Value).ownBlock) v3_ r4∧Kd.R (Kd.int .i64) 3 w' w.heap.size (fun k_=>some k_ ≠ (v3_ : Value).ownBlock) v4_ r5∧Below w.heap.size w w':=by
  have hu26:=Try.underlying26
  have HR0:=Aside0.mk hr0
  have HC0:=Aside0.mk hc0
  have HB:=Aside0.mk (Below.refl w.heap.size w)
  obtain ⟨t,A1_,H⟩:=Option.bind_eq_some_iff.mp h
  have A1:=Aside0.mk A1_
  have H1:=Aside0.mk H
  clear hr0 hc0 h A1_ H
  go_enter Try.func17,Try.ntmps17
  go_upto_region 1 with (first|((with_reducible refine gate_dst (N:=2) rfl ?_);(try (refine gate_guard (by rfl) ?_;dsimp only));refine box_event ?hg (N:=2) ?hd (cs:=#[.int .i64 0,.bool false,.int .i64 0,.slice none 0 0,.slice none 0 0,.bool false,.bool false]) (t:=26) ?hr ?_;(case hd=>rfl);(case hg=>rfl);(case hr=>first|(go_simp;done)|(go_simp;rfl));intro g0 hg w3 hbox hb;have n0_:=Aside0.mk (below_step HB.out hb);have BK0:=Aside0.mk (hbox);have GE0:=Aside0.mk ((by rw [hg];exact (below_size HB.out)) : w.heap.size ≤ g0);clear HB;have HB:=n0_;clear n0_ hb hbox hg))
  (try simp only [Act.put,List.setIfInBounds_toArray,List.set_cons_zero,List.set_cons_succ])
  go_cut [32] (fun v32 wc=>∃ b : Bool,v32 = .bool b∧Aside0 ((b=true∧spec_OldFrom.z=(r1,r2,r3,r4,r5,r6,r7,r8)) ∨ (b=false∧spec_OldFrom.t0 k l0=some (r1,r2,r3,r4,r5,r6,r7,r8)∧8 ≤ (l0.length : Int)∧(rd l0 5=1→11 ≤ (l0.length : Int))))∧Aside0 (wc.heap[g0]? = some (.cells #[.int .i64 0,.bool false,.int .i64 0,.slice none 0 0,.slice none 0 0,.bool false,.bool false] 26 (0,0)))∧Aside0 (Below w.heap.size w wc))
  case first =>
    have H:=H1.out
    clear H1
    cases t with
    | false =>
      have H':=Aside0.mk (show spec_OldFrom.z=(r1,r2,r3,r4,r5,r6,r7,r8) by simpa using H)
      clear H
      go_wp2_with (go_at_call 55;refine (spec_l1Ok.calls k _ _ l0 false _ (Kd.C_below HR0.out HB.out) HC0.out A1.out).mono ?_;rintro e w' ⟨rfl,⟨nd,rfl⟩⟩)
      go_meet
      case rel=>exact ⟨true,by first|rfl|(simp;done)|(simp [*];done),⟨.inl ⟨rfl,H'.out⟩⟩,⟨blk_drewN BK0.out _⟩,⟨pw_below_drewN HB.out _⟩⟩
    | true =>
      rw [if_pos rfl] at H
      by_cases c1 : (l0.length : Int) < 8
      · rw [if_pos c1] at H
        have H':=Aside0.mk (show spec_OldFrom.z=(r1,r2,r3,r4,r5,r6,r7,r8) by simpa using H)
        have d1 : decide ((l0.length : Int) < 8)=true:=decide_eq_true c1
        clear H
        go_wp2_with (go_at_call 55;refine (spec_l1Ok.calls k _ _ l0 true _ (Kd.C_below HR0.out HB.out) HC0.out A1.out).mono ?_;rintro e w' ⟨rfl,⟨nd,rfl⟩⟩)
        go_meet
        case rel=>exact ⟨true,by first|rfl|(simp;done)|(simp [*];done),⟨.inl ⟨rfl,H'.out⟩⟩,⟨blk_drewN BK0.out _⟩,⟨pw_below_drewN HB.out _⟩⟩
      · rw [if_neg c1] at H
        have d1 : decide ((l0.length : Int) < 8)=false:=decide_eq_false c1
        obtain ⟨ad,e1,hx0⟩:=Kd.at_int (Kd.C_below HR0.out HB.out) 5 (by decide) (by omega)
        have x5 : w3.cell? (ad.add 5)=some (.int .i64 (rd l0 5)):=hx0
        have z1 : (5 < (l0.length : Int))=True:=eq_true (by omega)
        cases e1
        clear hx0
        generalize hv : rd l0 5=v at *
        by_cases c2 : v=1
        · rw [if_pos c2] at H
          have d2 : (v == 1)=true:=by simpa using c2
          by_cases c3 : (l0.length : Int) < 11
          · rw [if_pos c3] at H
            have H':=Aside0.mk (show spec_OldFrom.z=(r1,r2,r3,r4,r5,r6,r7,r8) by simpa using H)
            have d3 : decide ((l0.length : Int) < 11)=true:=decide_eq_true c3
            clear H hv c2
            go_wp2_with (go_at_call 55;refine (spec_l1Ok.calls k _ _ l0 true _ (Kd.C_below HR0.out HB.out) HC0.out A1.out).mono ?_;rintro e w' ⟨rfl,⟨nd,rfl⟩⟩;have x5d : (w3.drewN nd).cell? (ad.add 5)=some (.int .i64 v):=x5;simp [Addr.add] at x5d)
            go_meet
            case rel=>exact ⟨true,by first|rfl|(simp;done)|(simp [*];done),⟨.inl ⟨rfl,H'.out⟩⟩,⟨blk_drewN BK0.out _⟩,⟨pw_below_drewN HB.out _⟩⟩
          · rw [if_neg c3] at H
            have H':=Aside0.mk H
            have d3 : decide ((l0.length : Int) < 11)=false:=decide_eq_false c3
            clear H hv c2
            go_wp2_with (go_at_call 55;refine (spec_l1Ok.calls k _ _ l0 true _ (Kd.C_below HR0.out HB.out) HC0.out A1.out).mono ?_;rintro e w' ⟨rfl,⟨nd,rfl⟩⟩;have x5d : (w3.drewN nd).cell? (ad.add 5)=some (.int .i64 v):=x5;simp [Addr.add] at x5d)
            go_meet
            case rel=>exact ⟨false,by first|rfl|(simp;done)|(simp [*];done),⟨.inr ⟨rfl,H'.out,by omega,fun _=>by omega⟩⟩,⟨blk_drewN BK0.out _⟩,⟨pw_below_drewN HB.out _⟩⟩
        · rw [if_neg c2] at H
          have d2 : (v == 1)=false:=by simpa using c2
          have H':=Aside0.mk H
          have c2a:=Aside0.mk c2
          clear H hv c2
          go_wp2_with (go_at_call 55;refine (spec_l1Ok.calls k _ _ l0 true _ (Kd.C_below HR0.out HB.out) HC0.out A1.out).mono ?_;rintro e w' ⟨rfl,⟨nd,rfl⟩⟩;have x5d : (w3.drewN nd).cell? (ad.add 5)=some (.int .i64 v):=x5;simp [Addr.add] at x5d)
          go_meet
          case rel=>exact ⟨false,by first|rfl|(simp;done)|(simp [*];done),⟨.inr ⟨rfl,H'.out,by omega,fun h=>absurd h c2a.out⟩⟩,⟨blk_drewN BK0.out _⟩,⟨pw_below_drewN HB.out _⟩⟩
  case rest =>
    obtain ⟨b,rfl,HA,BK0,HB⟩:=hcut
    rcases HA.out with ⟨rfl,hz⟩ | ⟨rfl,H,c6,c5⟩
    · clear HA H1 A1
      simp only [spec_OldFrom.z,Prod.mk.injEq] at hz
      obtain ⟨rfl,rfl,rfl,rfl,rfl,rfl,rfl,rfl⟩:=hz
      have hz_0:=(blk_cell BK0.out 0).trans (show _=some (Value.int .i64 0) from rfl)
      have hz_1:=(blk_cell BK0.out 1).trans (show _=some (Value.bool false) from rfl)
      have hz_2:=(blk_cell BK0.out 2).trans (show _=some (Value.int .i64 0) from rfl)
      have hz_3:=(blk_cell BK0.out 3).trans (show _=some (Value.slice none 0 0) from rfl)
      have hz_4:=(blk_cell BK0.out 4).trans (show _=some (Value.slice none 0 0) from rfl)
      have hz_5:=(blk_cell BK0.out 5).trans (show _=some (Value.bool false) from rfl)
      have hz_6:=(blk_cell BK0.out 6).trans (show _=some (Value.bool false) from rfl)
      have hf_0:=blk_frozen BK0.out 0
      have hf_1:=blk_frozen BK0.out 1
      have hf_2:=blk_frozen BK0.out 2
      have hf_3:=blk_frozen BK0.out 3
      have hf_4:=blk_frozen BK0.out 4
      have hf_5:=blk_frozen BK0.out 5
      have hf_6:=blk_frozen BK0.out 6
      go_wp2
      refine sof_end g0 _ false rfl rfl rfl (sold_set7 BK0.out _ _ _ _ _ _ _) ?_
      exact ⟨_,_,rfl,Kd.R_nil _ _ _ _ _,Kd.R_nil _ _ _ _ _,by with_reducible exact below_set (below_set (below_set (below_set (below_set (below_set (below_set HB.out GE0.out) GE0.out) GE0.out) GE0.out) GE0.out) GE0.out) GE0.out⟩
    clear HA H1 A1
    obtain ⟨o,A2_,H⟩:=Option.bind_eq_some_iff.mp H
    have A2:=Aside0.mk A2_
    have H2:=Aside0.mk H
    clear A2_ H
    have LL:=Aside0.mk c5
    clear c5
    go_upto_region 4 with (first|(go_at_call 56;refine (spec_l2From.calls k _ _ l0 0 3 o _ (Kd.C_below HR0.out HB.out) HC0.out A2.out).mono ?_;rintro e w5 ⟨rfl,hd⟩;have n0_:=Aside0.mk (sdrawn_below HB.out hd);have n1_:=Aside0.mk (sdrawn_blk BK0.out hd);clear HB BK0;have HB:=n0_;have BK0:=n1_;clear n0_ n1_ hd)|((with_reducible refine gate_dst (N:=4) rfl ?_);(try (refine gate_guard (by rfl) ?_;dsimp only));refine box_event ?hg (N:=4) ?hd (cs:=#[.int .i64 0,.bool false,.int .i64 0,.slice none 0 0,.slice none 0 0,.bool false,.bool false]) (t:=26) ?hr ?_;(case hd=>rfl);(case hg=>rfl);(case hr=>first|(go_simp;done)|(go_simp;rfl));intro g1 hg w4 hbox hb;have BK1:=Aside0.mk (hbox);have GE1:=Aside0.mk ((by rw [hg];exact (below_size HB.out)) : w.heap.size ≤ g1);have NB:=Aside0.mk (show g0 ≠ g1 by rw [hg];exact Nat.ne_of_lt (blk_lt BK0.out));have n1_:=Aside0.mk (blk_below BK0.out hb);have n0_:=Aside0.mk (below_step HB.out hb);clear HB BK0;have HB:=n0_;have BK0:=n1_;clear n0_ n1_ hb hbox hg;have hz_0:=(blk_cell BK1.out 0).trans (show _=some (Value.int .i64 0) from rfl);have hf_0:=blk_frozen BK1.out 0;have hz_1:=(blk_cell BK1.out 1).trans (show _=some (Value.bool false) from rfl);have hf_1:=blk_frozen BK1.out 1;have hz_2:=(blk_cell BK1.out 2).trans (show _=some (Value.int .i64 0) from rfl);have hf_2:=blk_frozen BK1.out 2;have hz_3:=(blk_cell BK1.out 3).trans (show _=some (Value.slice none 0 0) from rfl);have hf_3:=blk_frozen BK1.out 3;have hz_4:=(blk_cell BK1.out 4).trans (show _=some (Value.slice none 0 0) from rfl);have hf_4:=blk_frozen BK1.out 4;have hz_5:=(blk_cell BK1.out 5).trans (show _=some (Value.bool false) from rfl);have hf_5:=blk_frozen BK1.out 5;have hz_6:=(blk_cell BK1.out 6).trans (show _=some (Value.bool false) from rfl);have hf_6:=blk_frozen BK1.out 6))
    (try simp only [Act.put,List.setIfInBounds_toArray,List.set_cons_zero,List.set_cons_succ])
    have n0_:=Aside0.mk (show Below w.heap.size w (((((((w4.setCell ⟨g1,0,none⟩ (.int .i64 o)).setCell ⟨g1,1,none⟩ (.bool false)).setCell ⟨g1,2,none⟩ (.int .i64 0)).setCell ⟨g1,3,none⟩ (.slice none 0 0)).setCell ⟨g1,4,none⟩ (.slice none 0 0)).setCell ⟨g1,5,none⟩ (.bool false)).setCell ⟨g1,6,none⟩ (.bool false)) from below_set (below_set (below_set (below_set (below_set (below_set (below_set HB.out GE1.out) GE1.out) GE1.out) GE1.out) GE1.out) GE1.out) GE1.out)
    have n1_:=Aside0.mk (sfar7 BK0.out NB.out (.int .i64 o) (.bool false) (.int .i64 0) (.slice none 0 0) (.slice none 0 0) (.bool false) (.bool false))
    have n2_:=Aside0.mk (sold_set7 BK1.out (.int .i64 o) (.bool false) (.int .i64 0) (.slice none 0 0) (.slice none 0 0) (.bool false) (.bool false))
    clear hz_0 hf_0 hz_1 hf_1 hz_2 hf_2 hz_3 hf_3 hz_4 hf_4 hz_5 hf_5 hz_6 hf_6 A2 HB BK0 BK1
    generalize (((((((w4.setCell ⟨g1,0,none⟩ (.int .i64 o)).setCell ⟨g1,1,none⟩ (.bool false)).setCell ⟨g1,2,none⟩ (.int .i64 0)).setCell ⟨g1,3,none⟩ (.slice none 0 0)).setCell ⟨g1,4,none⟩ (.slice none 0 0)).setCell ⟨g1,5,none⟩ (.bool false)).setCell ⟨g1,6,none⟩ (.bool false))=w6 at n0_ n1_ n2_ ⊢
    have HB:=n0_
    have BK0:=n1_
    have BK1:=n2_
    clear n0_ n1_ n2_
    obtain ⟨ad,e1,hx0⟩:=Kd.at_int (Kd.C_below HR0.out HB.out) 5 (by decide) (by omega)
    have x5 : w6.cell? (ad.add 5)=some (.int .i64 (rd l0 5)):=hx0
    have z1 : (5 < (l0.length : Int))=True:=eq_true (by omega)
    simp [Addr.add] at x5
    cases e1
    clear hx0 c6
    go_upto_if 40 with fail
    go_cut [5] (fun v5 wc=>∃ (at_ : Int) (td : Bool) (tm : Int),v5 = .int .i64 at_∧Aside0 (spec_OldFrom.t1 k l0 o td tm at_=some (r1,r2,r3,r4,r5,r6,r7,r8))∧Aside0 (wc.heap[g0]? = some (.cells #[.int .i64 0,.bool false,.int .i64 0,.slice none 0 0,.slice none 0 0,.bool false,.bool false] 26 (0,0)))∧Aside0 (wc.heap[g1]? = some (.cells #[.int .i64 o,.bool td,.int .i64 tm,.slice none 0 0,.slice none 0 0,.bool false,.bool false] 26 (0,0)))∧Aside0 (Below w.heap.size w wc))
    case first =>
      have H:=H2.out
      clear H2
      by_cases c1 : rd l0 5=1
      · rw [if_pos c1] at H
        have c1b : (rd l0 5 == 1)=true:=by simpa using c1
        rw [c1b]
        clear c1 x5 LL
        obtain ⟨tm,A3_,H⟩:=Option.bind_eq_some_iff.mp H
        have A3:=Aside0.mk A3_
        have H':=Aside0.mk H
        clear A3_ H
        have hz1:=(blk_cell BK1.out 1).trans (show _=some (Value.bool false) from rfl)
        have hf1:=blk_frozen BK1.out 1
        go_upto_region 7 with fail
        have n0_:=Aside0.mk (below_set (j:=1) (v:=.bool true) HB.out GE1.out)
        have n1_:=Aside0.mk (blk_far (p:=⟨g1,1,none⟩) BK0.out NB.out (.bool true))
        have n2_:=Aside0.mk (blk_put (cs':=#[.int .i64 o,.bool true,.int .i64 0,.slice none 0 0,.slice none 0 0,.bool false,.bool false]) BK1.out 1 (.bool true) rfl)
        clear hz1 hf1 HB BK0 BK1
        generalize w6.setCell { block:=g1,off:=1 } (Value.bool true)=w7 at n0_ n1_ n2_ ⊢
        have HB:=n0_
        have BK0:=n1_
        have BK1:=n2_
        clear n0_ n1_ n2_
        go_upto_region 8 with (go_at_call 56;refine (spec_l2From.calls k _ _ l0 6 3 tm _ (Kd.C_below HR0.out HB.out) HC0.out A3.out).mono ?_;rintro e w8 ⟨rfl,hd⟩;have n0_:=Aside0.mk (sdrawn_below HB.out hd);have n1_:=Aside0.mk (sdrawn_blk BK0.out hd);have n2_:=Aside0.mk (sdrawn_blk BK1.out hd);clear HB BK0 BK1;have HB:=n0_;have BK0:=n1_;have BK1:=n2_;clear n0_ n1_ n2_ hd;have hz2:=(blk_cell BK1.out 2).trans (show _=some (Value.int .i64 0) from rfl);have hf2:=blk_frozen BK1.out 2)
        have n0_:=Aside0.mk (below_set (j:=2) (v:=.int .i64 tm) HB.out GE1.out)
        have n1_:=Aside0.mk (blk_far (p:=⟨g1,2,none⟩) BK0.out NB.out (.int .i64 tm))
        have n2_:=Aside0.mk (blk_put (cs':=#[.int .i64 o,.bool true,.int .i64 tm,.slice none 0 0,.slice none 0 0,.bool false,.bool false]) BK1.out 2 (.int .i64 tm) rfl)
        go_wp2
        go_meet
        case rel=>exact ⟨9,true,tm,rfl,H',n1_,n2_,n0_⟩
      · rw [if_neg c1] at H
        have c1b : (rd l0 5 == 1)=false:=by simpa using c1
        rw [c1b]
        have H':=Aside0.mk H
        clear H c1 x5 LL
        go_wp2
        go_meet
        case rel=>exact ⟨6,false,0,rfl,H',BK0,BK1,HB⟩
    case rest =>
      clear H2 x5 LL
      obtain ⟨at_,td,tm,rfl,HA,BK0,BK1,HB⟩:=hcut
      obtain ⟨⟨q1,key,nx,ok1⟩,P1_,H⟩:=Option.bind_eq_some_iff.mp HA.out
      dsimp only at H
      have P1:=Aside0.mk P1_
      clear HA P1_
      cases ok1 with
      | false =>
        have hz : spec_OldFrom.z=(r1,r2,r3,r4,r5,r6,r7,r8):=by simpa using H
        clear H
        go_upto_region 11 with (go_at_call 57;refine (spec_l11Get.calls _ _ l0 at_ q1 key nx false _ (Kd.C_below HR0.out HB.out) HC0.out P1.out).mono ?_;rintro e w7 ⟨v2,rfl,ho,hb⟩;have n0_:=Aside0.mk (below_step HB.out hb);have n1_:=Aside0.mk (blk_below BK0.out hb);have n2_:=Aside0.mk (blk_below BK1.out hb);clear HB BK0 BK1;have HB:=n0_;have BK0:=n1_;have BK1:=n2_;clear n0_ n1_ n2_;clear ho hb)
        simp only [spec_OldFrom.z,Prod.mk.injEq] at hz
        obtain ⟨rfl,rfl,rfl,rfl,rfl,rfl,rfl,rfl⟩:=hz
        have hz_0:=(blk_cell BK0.out 0).trans (show _=some (Value.int .i64 0) from rfl)
        have hz_1:=(blk_cell BK0.out 1).trans (show _=some (Value.bool false) from rfl)
        have hz_2:=(blk_cell BK0.out 2).trans (show _=some (Value.int .i64 0) from rfl)
        have hz_3:=(blk_cell BK0.out 3).trans (show _=some (Value.slice none 0 0) from rfl)
        have hz_4:=(blk_cell BK0.out 4).trans (show _=some (Value.slice none 0 0) from rfl)
        have hz_5:=(blk_cell BK0.out 5).trans (show _=some (Value.bool false) from rfl)
        have hz_6:=(blk_cell BK0.out 6).trans (show _=some (Value.bool false) from rfl)
        have hf_0:=blk_frozen BK0.out 0
        have hf_1:=blk_frozen BK0.out 1
        have hf_2:=blk_frozen BK0.out 2
        have hf_3:=blk_frozen BK0.out 3
        have hf_4:=blk_frozen BK0.out 4
        have hf_5:=blk_frozen BK0.out 5
        have hf_6:=blk_frozen BK0.out 6
        go_wp2
        refine sof_end g0 _ false rfl rfl rfl (sold_set7 BK0.out _ _ _ _ _ _ _) ?_
        exact ⟨_,_,rfl,Kd.R_nil _ _ _ _ _,Kd.R_nil _ _ _ _ _,by with_reducible exact below_set (below_set (below_set (below_set (below_set (below_set (below_set HB.out GE0.out) GE0.out) GE0.out) GE0.out) GE0.out) GE0.out) GE0.out⟩
      | true =>
        rw [if_pos rfl] at H
        obtain ⟨⟨q2,val,n3,ok2⟩,P2_,H⟩:=Option.bind_eq_some_iff.mp H
        dsimp only at H
        have P2:=Aside0.mk P2_
        have H2:=Aside0.mk H
        clear P2_ H
        go_upto_region 12 with (go_at_call 57;refine (spec_l11Get.calls _ _ l0 at_ q1 key nx true _ (Kd.C_below HR0.out HB.out) HC0.out P1.out).mono ?_;rintro e w7 ⟨v2,rfl,ho,hb⟩;have HO1:=Aside0.mk (Kd.R_lower ho (below_size HB.out));have n0_:=Aside0.mk (below_step HB.out hb);have n1_:=Aside0.mk (blk_below BK0.out hb);have n2_:=Aside0.mk (blk_below BK1.out hb);clear HB BK0 BK1;have HB:=n0_;have BK0:=n1_;have BK1:=n2_;clear n0_ n1_ n2_;clear ho hb;obtain ⟨Ak,ck,rfl,hlk,hCk⟩:=Kd.R_reads HO1.out;clear hlk hCk)
        go_upto_region 13 with (go_at_call 57;refine (spec_l11Get.calls _ _ l0 nx q2 val n3 ok2 _ (Kd.C_below HR0.out HB.out) HC0.out P2.out).mono ?_;rintro e w8 ⟨v4,rfl,ho,hb⟩;have HO2_:=Aside0.mk (Kd.R_mono (ok':=fun k_=>some k_ ≠ (Value.slice Ak key.length ck).ownBlock) (Kd.R_lower (Kd.R_new ho (Kd.R_own HO1.out).choose_spec) (below_size HB.out)) (fun _ hk=>hk.2));have HO1_:=Aside0.mk (sR_flat_int (ok':=fun k_=>some k_ ≠ v4.ownBlock) (Kd.R_below HO1.out hb) (fun k hk _ he=>(HO2_.out.1 k he.symm) hk.symm));have n0_:=Aside0.mk (below_step HB.out hb);have n1_:=Aside0.mk (blk_below BK0.out hb);have n2_:=Aside0.mk (blk_below BK1.out hb);clear HB BK0 BK1;have HB:=n0_;have BK0:=n1_;have BK1:=n2_;clear n0_ n1_ n2_;clear ho hb;have HO3:=HO1_;have HO4:=HO2_;clear HO1_ HO2_;obtain ⟨Av,cv,rfl,hlv,hCv⟩:=Kd.R_reads HO4.out;clear hlv hCv)
        clear HO1
        have hm_0:=(blk_cell BK1.out 0).trans (show _=some (Value.int .i64 o) from rfl)
        have hm_1:=(blk_cell BK1.out 1).trans (show _=some (Value.bool td) from rfl)
        have hm_2:=(blk_cell BK1.out 2).trans (show _=some (Value.int .i64 tm) from rfl)
        have hm_3:=(blk_cell BK1.out 3).trans (show _=some (Value.slice none 0 0) from rfl)
        have hm_4:=(blk_cell BK1.out 4).trans (show _=some (Value.slice none 0 0) from rfl)
        have hm_5:=(blk_cell BK1.out 5).trans (show _=some (Value.bool false) from rfl)
        have hm_6:=(blk_cell BK1.out 6).trans (show _=some (Value.bool false) from rfl)
        have hg_0:=blk_frozen BK1.out 0
        have hg_1:=blk_frozen BK1.out 1
        have hg_2:=blk_frozen BK1.out 2
        have hg_3:=blk_frozen BK1.out 3
        have hg_4:=blk_frozen BK1.out 4
        have hg_5:=blk_frozen BK1.out 5
        have hg_6:=blk_frozen BK1.out 6
        go_upto_region 17 with fail
        clear hm_0 hg_0 hm_1 hg_1 hm_2 hg_2 hm_3 hg_3 hm_4 hg_4 hm_5 hg_5 hm_6 hg_6
        have ra0:=sR_set26 HO3.out BK1.out 5 (.bool q1)
        have rb0:=sR_set26 HO4.out BK1.out 5 (.bool q1)
        have z0_:=blk_far (p:=⟨g1,5,none⟩) BK0.out NB.out (.bool q1)
        have y0_:=below_set (j:=5) (v:=.bool q1) HB.out GE1.out
        have x0_:=blk_put (cs:=#[.int .i64 o,.bool td,.int .i64 tm,.slice none 0 0,.slice none 0 0,.bool false,.bool false]) (cs':=#[.int .i64 o,.bool td,.int .i64 tm,.slice none 0 0,.slice none 0 0,.bool q1,.bool false]) BK1.out 5 (.bool q1) rfl
        generalize (w8.setCell ⟨g1,5,none⟩ (.bool q1))=V0 at ra0 rb0 z0_ y0_ x0_ ⊢
        have ra1:=sR_set26 ra0 x0_ 3 (.slice Ak key.length ck)
        have rb1:=sR_set26 rb0 x0_ 3 (.slice Ak key.length ck)
        have z1_:=blk_far (p:=⟨g1,3,none⟩) z0_ NB.out (.slice Ak key.length ck)
        have y1_:=below_set (j:=3) (v:=.slice Ak key.length ck) y0_ GE1.out
        have x1_:=blk_put (cs:=#[.int .i64 o,.bool td,.int .i64 tm,.slice none 0 0,.slice none 0 0,.bool q1,.bool false]) (cs':=#[.int .i64 o,.bool td,.int .i64 tm,.slice Ak key.length ck,.slice none 0 0,.bool q1,.bool false]) x0_ 3 (.slice Ak key.length ck) rfl
        generalize (V0.setCell ⟨g1,3,none⟩ (.slice Ak key.length ck))=V1 at ra1 rb1 z1_ y1_ x1_ ⊢
        have ra2:=sR_set26 ra1 x1_ 6 (.bool (!q2))
        have rb2:=sR_set26 rb1 x1_ 6 (.bool (!q2))
        have z2_:=blk_far (p:=⟨g1,6,none⟩) z1_ NB.out (.bool (!q2))
        have y2_:=below_set (j:=6) (v:=.bool (!q2)) y1_ GE1.out
        have x2_:=blk_put (cs:=#[.int .i64 o,.bool td,.int .i64 tm,.slice Ak key.length ck,.slice none 0 0,.bool q1,.bool false]) (cs':=#[.int .i64 o,.bool td,.int .i64 tm,.slice Ak key.length ck,.slice none 0 0,.bool q1,.bool (!q2)]) x1_ 6 (.bool (!q2)) rfl
        generalize (V1.setCell ⟨g1,6,none⟩ (.bool (!q2)))=V2 at ra2 rb2 z2_ y2_ x2_ ⊢
        have ra3:=sR_set26 ra2 x2_ 4 (.slice Av val.length cv)
        have rb3:=sR_set26 rb2 x2_ 4 (.slice Av val.length cv)
        have z3_:=blk_far (p:=⟨g1,4,none⟩) z2_ NB.out (.slice Av val.length cv)
        have y3_:=below_set (j:=4) (v:=.slice Av val.length cv) y2_ GE1.out
        have x3_:=blk_put (cs:=#[.int .i64 o,.bool td,.int .i64 tm,.slice Ak key.length ck,.slice none 0 0,.bool q1,.bool (!q2)]) (cs':=#[.int .i64 o,.bool td,.int .i64 tm,.slice Ak key.length ck,.slice Av val.length cv,.bool q1,.bool (!q2)]) x2_ 4 (.slice Av val.length cv) rfl
        generalize (V2.setCell ⟨g1,4,none⟩ (.slice Av val.length cv))=V3 at ra3 rb3 z3_ y3_ x3_ ⊢
        clear ra0 rb0 z0_ y0_ x0_ ra1 rb1 z1_ y1_ x1_ ra2 rb2 z2_ y2_ x2_ BK0 BK1 HB HO3 HO4 P1 P2
        have BK0:=Aside0.mk z3_
        have BK1:=Aside0.mk x3_
        have HB:=Aside0.mk y3_
        have HO3:=Aside0.mk ra3
        have HO4:=Aside0.mk rb3
        clear ra3 rb3 z3_ y3_ x3_
        have hm_0:=(blk_cell BK1.out 0).trans (show _=some (Value.int .i64 o) from rfl)
        have hm_1:=(blk_cell BK1.out 1).trans (show _=some (Value.bool td) from rfl)
        have hm_2:=(blk_cell BK1.out 2).trans (show _=some (Value.int .i64 tm) from rfl)
        have hm_3:=(blk_cell BK1.out 3).trans (show _=some (Value.slice Ak key.length ck) from rfl)
        have hm_4:=(blk_cell BK1.out 4).trans (show _=some (Value.slice Av val.length cv) from rfl)
        have hm_5:=(blk_cell BK1.out 5).trans (show _=some (Value.bool q1) from rfl)
        have hm_6:=(blk_cell BK1.out 6).trans (show _=some (Value.bool (!q2)) from rfl)
        cases ok2 with
        | false =>
          have hz : spec_OldFrom.z=(r1,r2,r3,r4,r5,r6,r7,r8):=by simpa using H2.out
          clear H2
          go_upto_region 18 with fail
          clear hm_0 hm_1 hm_2 hm_3 hm_4 hm_5 hm_6
          simp only [spec_OldFrom.z,Prod.mk.injEq] at hz
          obtain ⟨rfl,rfl,rfl,rfl,rfl,rfl,rfl,rfl⟩:=hz
          have hz_0:=(blk_cell BK0.out 0).trans (show _=some (Value.int .i64 0) from rfl)
          have hz_1:=(blk_cell BK0.out 1).trans (show _=some (Value.bool false) from rfl)
          have hz_2:=(blk_cell BK0.out 2).trans (show _=some (Value.int .i64 0) from rfl)
          have hz_3:=(blk_cell BK0.out 3).trans (show _=some (Value.slice none 0 0) from rfl)
          have hz_4:=(blk_cell BK0.out 4).trans (show _=some (Value.slice none 0 0) from rfl)
          have hz_5:=(blk_cell BK0.out 5).trans (show _=some (Value.bool false) from rfl)
          have hz_6:=(blk_cell BK0.out 6).trans (show _=some (Value.bool false) from rfl)
          have hf_0:=blk_frozen BK0.out 0
          have hf_1:=blk_frozen BK0.out 1
          have hf_2:=blk_frozen BK0.out 2
          have hf_3:=blk_frozen BK0.out 3
          have hf_4:=blk_frozen BK0.out 4
          have hf_5:=blk_frozen BK0.out 5
          have hf_6:=blk_frozen BK0.out 6
          go_wp2
          refine sof_end g0 _ false rfl rfl rfl (sold_set7 BK0.out _ _ _ _ _ _ _) ?_
          exact ⟨_,_,rfl,Kd.R_nil _ _ _ _ _,Kd.R_nil _ _ _ _ _,by with_reducible exact below_set (below_set (below_set (below_set (below_set (below_set (below_set HB.out GE0.out) GE0.out) GE0.out) GE0.out) GE0.out) GE0.out) GE0.out⟩
        | true =>
          have H:=H2.out
          rw [if_pos rfl] at H
          clear H2
          obtain ⟨v,V_,H⟩:=Option.bind_eq_some_iff.mp H
          have VV:=Aside0.mk V_
          have H2:=Aside0.mk H
          clear V_ H
          cases v with
          | false =>
            have hz : spec_OldFrom.z=(r1,r2,r3,r4,r5,r6,r7,r8):=by simpa using H2.out
            clear H2
            go_upto_region 18 with (go_at_call 32;refine (spec_OldValid.calls k o td tm Ak ck key Av cv val q1 (!q2) false _ (sR_own_reads HO3.out).2 (sR_own_reads HO3.out).1 (sR_own_reads HO4.out).2 (sR_own_reads HO4.out).1 VV.out).mono ?_;rintro e w9 ⟨rfl,hb⟩;have n0_:=Aside0.mk (below_step HB.out hb);have n1_:=Aside0.mk (blk_below BK0.out hb);have n2_:=Aside0.mk (blk_below BK1.out hb);have n3_:=Aside0.mk (Kd.R_below HO3.out hb);have n4_:=Aside0.mk (Kd.R_below HO4.out hb);clear HB BK0 BK1 HO3 HO4 hb;have HB:=n0_;have BK0:=n1_;have BK1:=n2_;have HO3:=n3_;have HO4:=n4_;clear n0_ n1_ n2_ n3_ n4_;clear hm_0 hm_1 hm_2 hm_3 hm_4 hm_5 hm_6;have hm_0:=(blk_cell BK1.out 0).trans (show _=some (Value.int .i64 o) from rfl);have hm_1:=(blk_cell BK1.out 1).trans (show _=some (Value.bool td) from rfl);have hm_2:=(blk_cell BK1.out 2).trans (show _=some (Value.int .i64 tm) from rfl);have hm_3:=(blk_cell BK1.out 3).trans (show _=some (Value.slice Ak key.length ck) from rfl);have hm_4:=(blk_cell BK1.out 4).trans (show _=some (Value.slice Av val.length cv) from rfl);have hm_5:=(blk_cell BK1.out 5).trans (show _=some (Value.bool q1) from rfl);have hm_6:=(blk_cell BK1.out 6).trans (show _=some (Value.bool (!q2)) from rfl))
            clear hm_0 hm_1 hm_2 hm_3 hm_4 hm_5 hm_6
            simp only [spec_OldFrom.z,Prod.mk.injEq] at hz
            obtain ⟨rfl,rfl,rfl,rfl,rfl,rfl,rfl,rfl⟩:=hz
            have hz_0:=(blk_cell BK0.out 0).trans (show _=some (Value.int .i64 0) from rfl)
            have hz_1:=(blk_cell BK0.out 1).trans (show _=some (Value.bool false) from rfl)
            have hz_2:=(blk_cell BK0.out 2).trans (show _=some (Value.int .i64 0) from rfl)
            have hz_3:=(blk_cell BK0.out 3).trans (show _=some (Value.slice none 0 0) from rfl)
            have hz_4:=(blk_cell BK0.out 4).trans (show _=some (Value.slice none 0 0) from rfl)
            have hz_5:=(blk_cell BK0.out 5).trans (show _=some (Value.bool false) from rfl)
            have hz_6:=(blk_cell BK0.out 6).trans (show _=some (Value.bool false) from rfl)
            have hf_0:=blk_frozen BK0.out 0
            have hf_1:=blk_frozen BK0.out 1
            have hf_2:=blk_frozen BK0.out 2
            have hf_3:=blk_frozen BK0.out 3
            have hf_4:=blk_frozen BK0.out 4
            have hf_5:=blk_frozen BK0.out 5
            have hf_6:=blk_frozen BK0.out 6
            go_wp2
            refine sof_end g0 _ false rfl rfl rfl (sold_set7 BK0.out _ _ _ _ _ _ _) ?_
            exact ⟨_,_,rfl,Kd.R_nil _ _ _ _ _,Kd.R_nil _ _ _ _ _,by with_reducible exact below_set (below_set (below_set (below_set (below_set (below_set (below_set HB.out GE0.out) GE0.out) GE0.out) GE0.out) GE0.out) GE0.out) GE0.out⟩
          | true =>
            have H:=H2.out
            rw [if_pos rfl] at H
            obtain ⟨bs,PB_,H⟩:=Option.bind_eq_some_iff.mp H
            obtain ⟨e,PE_,H⟩:=Option.bind_eq_some_iff.mp H
            have PB:=Aside0.mk PB_
            have PE:=Aside0.mk PE_
            have tok1 : True:=trivial
            clear H2 PB_ PE_
            cases e with
            | false =>
              have hz : spec_OldFrom.z=(r1,r2,r3,r4,r5,r6,r7,r8):=by simpa using H
              clear H
              go_upto_region 18 with (first|(go_at_call 32;refine (spec_OldValid.calls k o td tm Ak ck key Av cv val q1 (!q2) true _ (sR_own_reads HO3.out).2 (sR_own_reads HO3.out).1 (sR_own_reads HO4.out).2 (sR_own_reads HO4.out).1 VV.out).mono ?_;rintro e w9 ⟨rfl,hb⟩;have n0_:=Aside0.mk (below_step HB.out hb);have n1_:=Aside0.mk (blk_below BK0.out hb);have n2_:=Aside0.mk (blk_below BK1.out hb);have n3_:=Aside0.mk (Kd.R_below HO3.out hb);have n4_:=Aside0.mk (Kd.R_below HO4.out hb);clear HB BK0 BK1 HO3 HO4 hb;have HB:=n0_;have BK0:=n1_;have BK1:=n2_;have HO3:=n3_;have HO4:=n4_;clear n0_ n1_ n2_ n3_ n4_;clear hm_0 hm_1 hm_2 hm_3 hm_4 hm_5 hm_6;have hm_0:=(blk_cell BK1.out 0).trans (show _=some (Value.int .i64 o) from rfl);have hm_1:=(blk_cell BK1.out 1).trans (show _=some (Value.bool td) from rfl);have hm_2:=(blk_cell BK1.out 2).trans (show _=some (Value.int .i64 tm) from rfl);have hm_3:=(blk_cell BK1.out 3).trans (show _=some (Value.slice Ak key.length ck) from rfl);have hm_4:=(blk_cell BK1.out 4).trans (show _=some (Value.slice Av val.length cv) from rfl);have hm_5:=(blk_cell BK1.out 5).trans (show _=some (Value.bool q1) from rfl);have hm_6:=(blk_cell BK1.out 6).trans (show _=some (Value.bool (!q2)) from rfl))|(go_at_call 59;have _tok:=tok1;refine (spec_l11Bytes.calls k o td tm Ak ck key Av cv val q1 (!q2) bs _ (sR_own_reads HO3.out).2 (sR_own_reads HO3.out).1 (sR_own_reads HO4.out).2 (sR_own_reads HO4.out).1 PB.out).mono ?_;rintro e w10 ⟨v10,rfl,ho,hb⟩;have n0_:=Aside0.mk (below_step HB.out hb);have n1_:=Aside0.mk (blk_below BK0.out hb);have n2_:=Aside0.mk (blk_below BK1.out hb);have n3_:=Aside0.mk (Kd.R_below HO3.out hb);have n4_:=Aside0.mk (Kd.R_below HO4.out hb);clear HB BK0 BK1 HO3 HO4 hb;have HB:=n0_;have BK0:=n1_;have BK1:=n2_;have HO3:=n3_;have HO4:=n4_;clear n0_ n1_ n2_ n3_ n4_;clear hm_0 hm_1 hm_2 hm_3 hm_4 hm_5 hm_6;have hm_0:=(blk_cell BK1.out 0).trans (show _=some (Value.int .i64 o) from rfl);have hm_1:=(blk_cell BK1.out 1).trans (show _=some (Value.bool td) from rfl);have hm_2:=(blk_cell BK1.out 2).trans (show _=some (Value.int .i64 tm) from rfl);have hm_3:=(blk_cell BK1.out 3).trans (show _=some (Value.slice Ak key.length ck) from rfl);have hm_4:=(blk_cell BK1.out 4).trans (show _=some (Value.slice Av val.length cv) from rfl);have hm_5:=(blk_cell BK1.out 5).trans (show _=some (Value.bool q1) from rfl);have hm_6:=(blk_cell BK1.out 6).trans (show _=some (Value.bool (!q2)) from rfl);obtain ⟨Ab,cb,rfl,hlb,hCb⟩:=Kd.R_reads ho;have HCb:=Aside0.mk (And.intro hCb hlb);clear ho hCb hlb tok1 _tok)|(go_at_call 58;refine (spec_l3Same.calls k _ _ l0 0 Ab cb bs false _ (Kd.C_below HR0.out HB.out) HC0.out HCb.out.1 HCb.out.2 PE.out).mono ?_;rintro e w11 ⟨rfl,hd⟩;have hb:=sdrawn_below (Below.refl w10.heap.size w10) hd;clear hd HCb;have n0_:=Aside0.mk (below_step HB.out hb);have n1_:=Aside0.mk (blk_below BK0.out hb);have n2_:=Aside0.mk (blk_below BK1.out hb);have n3_:=Aside0.mk (Kd.R_below HO3.out hb);have n4_:=Aside0.mk (Kd.R_below HO4.out hb);clear HB BK0 BK1 HO3 HO4 hb;have HB:=n0_;have BK0:=n1_;have BK1:=n2_;have HO3:=n3_;have HO4:=n4_;clear n0_ n1_ n2_ n3_ n4_;clear hm_0 hm_1 hm_2 hm_3 hm_4 hm_5 hm_6;have hm_0:=(blk_cell BK1.out 0).trans (show _=some (Value.int .i64 o) from rfl);have hm_1:=(blk_cell BK1.out 1).trans (show _=some (Value.bool td) from rfl);have hm_2:=(blk_cell BK1.out 2).trans (show _=some (Value.int .i64 tm) from rfl);have hm_3:=(blk_cell BK1.out 3).trans (show _=some (Value.slice Ak key.length ck) from rfl);have hm_4:=(blk_cell BK1.out 4).trans (show _=some (Value.slice Av val.length cv) from rfl);have hm_5:=(blk_cell BK1.out 5).trans (show _=some (Value.bool q1) from rfl);have hm_6:=(blk_cell BK1.out 6).trans (show _=some (Value.bool (!q2)) from rfl)))
              clear hm_0 hm_1 hm_2 hm_3 hm_4 hm_5 hm_6
              simp only [spec_OldFrom.z,Prod.mk.injEq] at hz
              obtain ⟨rfl,rfl,rfl,rfl,rfl,rfl,rfl,rfl⟩:=hz
              have hz_0:=(blk_cell BK0.out 0).trans (show _=some (Value.int .i64 0) from rfl)
              have hz_1:=(blk_cell BK0.out 1).trans (show _=some (Value.bool false) from rfl)
              have hz_2:=(blk_cell BK0.out 2).trans (show _=some (Value.int .i64 0) from rfl)
              have hz_3:=(blk_cell BK0.out 3).trans (show _=some (Value.slice none 0 0) from rfl)
              have hz_4:=(blk_cell BK0.out 4).trans (show _=some (Value.slice none 0 0) from rfl)
              have hz_5:=(blk_cell BK0.out 5).trans (show _=some (Value.bool false) from rfl)
              have hz_6:=(blk_cell BK0.out 6).trans (show _=some (Value.bool false) from rfl)
              have hf_0:=blk_frozen BK0.out 0
              have hf_1:=blk_frozen BK0.out 1
              have hf_2:=blk_frozen BK0.out 2
              have hf_3:=blk_frozen BK0.out 3
              have hf_4:=blk_frozen BK0.out 4
              have hf_5:=blk_frozen BK0.out 5
              have hf_6:=blk_frozen BK0.out 6
              go_wp2
              refine sof_end g0 _ false rfl rfl rfl (sold_set7 BK0.out _ _ _ _ _ _ _) ?_
              exact ⟨_,_,rfl,Kd.R_nil _ _ _ _ _,Kd.R_nil _ _ _ _ _,by with_reducible exact below_set (below_set (below_set (below_set (below_set (below_set (below_set HB.out GE0.out) GE0.out) GE0.out) GE0.out) GE0.out) GE0.out) GE0.out⟩
            | true =>
              rw [if_pos rfl] at H
              obtain ⟨b2,PB2_,H⟩:=Option.bind_eq_some_iff.mp H
              obtain rfl : bs=b2:=by rw [PB.out] at PB2_;simpa using PB2_
              clear PB2_
              by_cases cl : (bs.length : Int)=(l0.length : Int)
              · rw [if_pos cl] at H
                simp only [Option.some.injEq,Prod.mk.injEq] at H
                obtain ⟨rfl,rfl,rfl,rfl,rfl,rfl,rfl,rfl⟩:=H
                have d5 : ((bs.length : Int) != (l0.length : Int))=false:=by simpa using cl
                have d6 : ((bs.length : Int) == (l0.length : Int))=true:=by simpa using cl
                clear cl
                go_upto_region 19 with (first|(go_at_call 32;refine (spec_OldValid.calls k o td tm Ak ck key Av cv val q1 (!q2) true _ (sR_own_reads HO3.out).2 (sR_own_reads HO3.out).1 (sR_own_reads HO4.out).2 (sR_own_reads HO4.out).1 VV.out).mono ?_;rintro e w9 ⟨rfl,hb⟩;have n0_:=Aside0.mk (below_step HB.out hb);have n1_:=Aside0.mk (blk_below BK0.out hb);have n2_:=Aside0.mk (blk_below BK1.out hb);have n3_:=Aside0.mk (Kd.R_below HO3.out hb);have n4_:=Aside0.mk (Kd.R_below HO4.out hb);clear HB BK0 BK1 HO3 HO4 hb;have HB:=n0_;have BK0:=n1_;have BK1:=n2_;have HO3:=n3_;have HO4:=n4_;clear n0_ n1_ n2_ n3_ n4_;clear hm_0 hm_1 hm_2 hm_3 hm_4 hm_5 hm_6;have hm_0:=(blk_cell BK1.out 0).trans (show _=some (Value.int .i64 o) from rfl);have hm_1:=(blk_cell BK1.out 1).trans (show _=some (Value.bool td) from rfl);have hm_2:=(blk_cell BK1.out 2).trans (show _=some (Value.int .i64 tm) from rfl);have hm_3:=(blk_cell BK1.out 3).trans (show _=some (Value.slice Ak key.length ck) from rfl);have hm_4:=(blk_cell BK1.out 4).trans (show _=some (Value.slice Av val.length cv) from rfl);have hm_5:=(blk_cell BK1.out 5).trans (show _=some (Value.bool q1) from rfl);have hm_6:=(blk_cell BK1.out 6).trans (show _=some (Value.bool (!q2)) from rfl))|(go_at_call 59;have _tok:=tok1;refine (spec_l11Bytes.calls k o td tm Ak ck key Av cv val q1 (!q2) bs _ (sR_own_reads HO3.out).2 (sR_own_reads HO3.out).1 (sR_own_reads HO4.out).2 (sR_own_reads HO4.out).1 PB.out).mono ?_;rintro e w10 ⟨v10,rfl,ho,hb⟩;have n0_:=Aside0.mk (below_step HB.out hb);have n1_:=Aside0.mk (blk_below BK0.out hb);have n2_:=Aside0.mk (blk_below BK1.out hb);have n3_:=Aside0.mk (Kd.R_below HO3.out hb);have n4_:=Aside0.mk (Kd.R_below HO4.out hb);clear HB BK0 BK1 HO3 HO4 hb;have HB:=n0_;have BK0:=n1_;have BK1:=n2_;have HO3:=n3_;have HO4:=n4_;clear n0_ n1_ n2_ n3_ n4_;clear hm_0 hm_1 hm_2 hm_3 hm_4 hm_5 hm_6;have hm_0:=(blk_cell BK1.out 0).trans (show _=some (Value.int .i64 o) from rfl);have hm_1:=(blk_cell BK1.out 1).trans (show _=some (Value.bool td) from rfl);have hm_2:=(blk_cell BK1.out 2).trans (show _=some (Value.int .i64 tm) from rfl);have hm_3:=(blk_cell BK1.out 3).trans (show _=some (Value.slice Ak key.length ck) from rfl);have hm_4:=(blk_cell BK1.out 4).trans (show _=some (Value.slice Av val.length cv) from rfl);have hm_5:=(blk_cell BK1.out 5).trans (show _=some (Value.bool q1) from rfl);have hm_6:=(blk_cell BK1.out 6).trans (show _=some (Value.bool (!q2)) from rfl);obtain ⟨Ab,cb,rfl,hlb,hCb⟩:=Kd.R_reads ho;have HCb:=Aside0.mk (And.intro hCb hlb);clear ho hCb hlb tok1 _tok)|(go_at_call 58;refine (spec_l3Same.calls k _ _ l0 0 Ab cb bs true _ (Kd.C_below HR0.out HB.out) HC0.out HCb.out.1 HCb.out.2 PE.out).mono ?_;rintro e w11 ⟨rfl,hd⟩;have hb:=sdrawn_below (Below.refl w10.heap.size w10) hd;clear hd HCb;have n0_:=Aside0.mk (below_step HB.out hb);have n1_:=Aside0.mk (blk_below BK0.out hb);have n2_:=Aside0.mk (blk_below BK1.out hb);have n3_:=Aside0.mk (Kd.R_below HO3.out hb);have n4_:=Aside0.mk (Kd.R_below HO4.out hb);clear HB BK0 BK1 HO3 HO4 hb;have HB:=n0_;have BK0:=n1_;have BK1:=n2_;have HO3:=n3_;have HO4:=n4_;clear n0_ n1_ n2_ n3_ n4_;clear hm_0 hm_1 hm_2 hm_3 hm_4 hm_5 hm_6;have hm_0:=(blk_cell BK1.out 0).trans (show _=some (Value.int .i64 o) from rfl);have hm_1:=(blk_cell BK1.out 1).trans (show _=some (Value.bool td) from rfl);have hm_2:=(blk_cell BK1.out 2).trans (show _=some (Value.int .i64 tm) from rfl);have hm_3:=(blk_cell BK1.out 3).trans (show _=some (Value.slice Ak key.length ck) from rfl);have hm_4:=(blk_cell BK1.out 4).trans (show _=some (Value.slice Av val.length cv) from rfl);have hm_5:=(blk_cell BK1.out 5).trans (show _=some (Value.bool q1) from rfl);have hm_6:=(blk_cell BK1.out 6).trans (show _=some (Value.bool (!q2)) from rfl))|(go_at_call 59;refine (spec_l11Bytes.calls k o td tm Ak ck key Av cv val q1 (!q2) bs _ (sR_own_reads HO3.out).2 (sR_own_reads HO3.out).1 (sR_own_reads HO4.out).2 (sR_own_reads HO4.out).1 PB.out).mono ?_;rintro e w12 ⟨v12,rfl,ho,hb⟩;have n0_:=Aside0.mk (below_step HB.out hb);have n1_:=Aside0.mk (blk_below BK0.out hb);have n2_:=Aside0.mk (blk_below BK1.out hb);have n3_:=Aside0.mk (Kd.R_below HO3.out hb);have n4_:=Aside0.mk (Kd.R_below HO4.out hb);clear HB BK0 BK1 HO3 HO4 hb;have HB:=n0_;have BK0:=n1_;have BK1:=n2_;have HO3:=n3_;have HO4:=n4_;clear n0_ n1_ n2_ n3_ n4_;clear hm_0 hm_1 hm_2 hm_3 hm_4 hm_5 hm_6;have hm_0:=(blk_cell BK1.out 0).trans (show _=some (Value.int .i64 o) from rfl);have hm_1:=(blk_cell BK1.out 1).trans (show _=some (Value.bool td) from rfl);have hm_2:=(blk_cell BK1.out 2).trans (show _=some (Value.int .i64 tm) from rfl);have hm_3:=(blk_cell BK1.out 3).trans (show _=some (Value.slice Ak key.length ck) from rfl);have hm_4:=(blk_cell BK1.out 4).trans (show _=some (Value.slice Av val.length cv) from rfl);have hm_5:=(blk_cell BK1.out 5).trans (show _=some (Value.bool q1) from rfl);have hm_6:=(blk_cell BK1.out 6).trans (show _=some (Value.bool (!q2)) from rfl);obtain ⟨Ac,cc,rfl,hlc,hCc⟩:=Kd.R_reads ho;clear ho hCc hlc))
                have hz_0:=(blk_cell BK0.out 0).trans (show _=some (Value.int .i64 0) from rfl)
                have hz_1:=(blk_cell BK0.out 1).trans (show _=some (Value.bool false) from rfl)
                have hz_2:=(blk_cell BK0.out 2).trans (show _=some (Value.int .i64 0) from rfl)
                have hz_3:=(blk_cell BK0.out 3).trans (show _=some (Value.slice none 0 0) from rfl)
                have hz_4:=(blk_cell BK0.out 4).trans (show _=some (Value.slice none 0 0) from rfl)
                have hz_5:=(blk_cell BK0.out 5).trans (show _=some (Value.bool false) from rfl)
                have hz_6:=(blk_cell BK0.out 6).trans (show _=some (Value.bool false) from rfl)
                have hf_0:=blk_frozen BK0.out 0
                have hf_1:=blk_frozen BK0.out 1
                have hf_2:=blk_frozen BK0.out 2
                have hf_3:=blk_frozen BK0.out 3
                have hf_4:=blk_frozen BK0.out 4
                have hf_5:=blk_frozen BK0.out 5
                have hf_6:=blk_frozen BK0.out 6
                have hne:=NB.out
                have hnf:=NB.out.symm
                go_wp2
                refine sof_end g0 _ true rfl rfl rfl (sold_set7 BK0.out _ _ _ _ _ _ _) ?_
                exact ⟨_,_,rfl,sR_set7 BK0.out HO3.out _ _ _ _ _ _ _,sR_set7 BK0.out HO4.out _ _ _ _ _ _ _,below_set (below_set (below_set (below_set (below_set (below_set (below_set HB.out GE0.out) GE0.out) GE0.out) GE0.out) GE0.out) GE0.out) GE0.out⟩
              · rw [if_neg cl] at H
                have hz : spec_OldFrom.z=(r1,r2,r3,r4,r5,r6,r7,r8):=by simpa using H
                have d5 : ((bs.length : Int) != (l0.length : Int))=true:=by simpa using cl
                have d6 : ((bs.length : Int) == (l0.length : Int))=false:=by simpa using cl
                clear H cl
                go_upto_region 18 with (first|(go_at_call 32;refine (spec_OldValid.calls k o td tm Ak ck key Av cv val q1 (!q2) true _ (sR_own_reads HO3.out).2 (sR_own_reads HO3.out).1 (sR_own_reads HO4.out).2 (sR_own_reads HO4.out).1 VV.out).mono ?_;rintro e w9 ⟨rfl,hb⟩;have n0_:=Aside0.mk (below_step HB.out hb);have n1_:=Aside0.mk (blk_below BK0.out hb);have n2_:=Aside0.mk (blk_below BK1.out hb);have n3_:=Aside0.mk (Kd.R_below HO3.out hb);have n4_:=Aside0.mk (Kd.R_below HO4.out hb);clear HB BK0 BK1 HO3 HO4 hb;have HB:=n0_;have BK0:=n1_;have BK1:=n2_;have HO3:=n3_;have HO4:=n4_;clear n0_ n1_ n2_ n3_ n4_;clear hm_0 hm_1 hm_2 hm_3 hm_4 hm_5 hm_6;have hm_0:=(blk_cell BK1.out 0).trans (show _=some (Value.int .i64 o) from rfl);have hm_1:=(blk_cell BK1.out 1).trans (show _=some (Value.bool td) from rfl);have hm_2:=(blk_cell BK1.out 2).trans (show _=some (Value.int .i64 tm) from rfl);have hm_3:=(blk_cell BK1.out 3).trans (show _=some (Value.slice Ak key.length ck) from rfl);have hm_4:=(blk_cell BK1.out 4).trans (show _=some (Value.slice Av val.length cv) from rfl);have hm_5:=(blk_cell BK1.out 5).trans (show _=some (Value.bool q1) from rfl);have hm_6:=(blk_cell BK1.out 6).trans (show _=some (Value.bool (!q2)) from rfl))|(go_at_call 59;have _tok:=tok1;refine (spec_l11Bytes.calls k o td tm Ak ck key Av cv val q1 (!q2) bs _ (sR_own_reads HO3.out).2 (sR_own_reads HO3.out).1 (sR_own_reads HO4.out).2 (sR_own_reads HO4.out).1 PB.out).mono ?_;rintro e w10 ⟨v10,rfl,ho,hb⟩;have n0_:=Aside0.mk (below_step HB.out hb);have n1_:=Aside0.mk (blk_below BK0.out hb);have n2_:=Aside0.mk (blk_below BK1.out hb);have n3_:=Aside0.mk (Kd.R_below HO3.out hb);have n4_:=Aside0.mk (Kd.R_below HO4.out hb);clear HB BK0 BK1 HO3 HO4 hb;have HB:=n0_;have BK0:=n1_;have BK1:=n2_;have HO3:=n3_;have HO4:=n4_;clear n0_ n1_ n2_ n3_ n4_;clear hm_0 hm_1 hm_2 hm_3 hm_4 hm_5 hm_6;have hm_0:=(blk_cell BK1.out 0).trans (show _=some (Value.int .i64 o) from rfl);have hm_1:=(blk_cell BK1.out 1).trans (show _=some (Value.bool td) from rfl);have hm_2:=(blk_cell BK1.out 2).trans (show _=some (Value.int .i64 tm) from rfl);have hm_3:=(blk_cell BK1.out 3).trans (show _=some (Value.slice Ak key.length ck) from rfl);have hm_4:=(blk_cell BK1.out 4).trans (show _=some (Value.slice Av val.length cv) from rfl);have hm_5:=(blk_cell BK1.out 5).trans (show _=some (Value.bool q1) from rfl);have hm_6:=(blk_cell BK1.out 6).trans (show _=some (Value.bool (!q2)) from rfl);obtain ⟨Ab,cb,rfl,hlb,hCb⟩:=Kd.R_reads ho;have HCb:=Aside0.mk (And.intro hCb hlb);clear ho hCb hlb tok1 _tok)|(go_at_call 58;refine (spec_l3Same.calls k _ _ l0 0 Ab cb bs true _ (Kd.C_below HR0.out HB.out) HC0.out HCb.out.1 HCb.out.2 PE.out).mono ?_;rintro e w11 ⟨rfl,hd⟩;have hb:=sdrawn_below (Below.refl w10.heap.size w10) hd;clear hd HCb;have n0_:=Aside0.mk (below_step HB.out hb);have n1_:=Aside0.mk (blk_below BK0.out hb);have n2_:=Aside0.mk (blk_below BK1.out hb);have n3_:=Aside0.mk (Kd.R_below HO3.out hb);have n4_:=Aside0.mk (Kd.R_below HO4.out hb);clear HB BK0 BK1 HO3 HO4 hb;have HB:=n0_;have BK0:=n1_;have BK1:=n2_;have HO3:=n3_;have HO4:=n4_;clear n0_ n1_ n2_ n3_ n4_;clear hm_0 hm_1 hm_2 hm_3 hm_4 hm_5 hm_6;have hm_0:=(blk_cell BK1.out 0).trans (show _=some (Value.int .i64 o) from rfl);have hm_1:=(blk_cell BK1.out 1).trans (show _=some (Value.bool td) from rfl);have hm_2:=(blk_cell BK1.out 2).trans (show _=some (Value.int .i64 tm) from rfl);have hm_3:=(blk_cell BK1.out 3).trans (show _=some (Value.slice Ak key.length ck) from rfl);have hm_4:=(blk_cell BK1.out 4).trans (show _=some (Value.slice Av val.length cv) from rfl);have hm_5:=(blk_cell BK1.out 5).trans (show _=some (Value.bool q1) from rfl);have hm_6:=(blk_cell BK1.out 6).trans (show _=some (Value.bool (!q2)) from rfl))|(go_at_call 59;refine (spec_l11Bytes.calls k o td tm Ak ck key Av cv val q1 (!q2) bs _ (sR_own_reads HO3.out).2 (sR_own_reads HO3.out).1 (sR_own_reads HO4.out).2 (sR_own_reads HO4.out).1 PB.out).mono ?_;rintro e w12 ⟨v12,rfl,ho,hb⟩;have n0_:=Aside0.mk (below_step HB.out hb);have n1_:=Aside0.mk (blk_below BK0.out hb);have n2_:=Aside0.mk (blk_below BK1.out hb);have n3_:=Aside0.mk (Kd.R_below HO3.out hb);have n4_:=Aside0.mk (Kd.R_below HO4.out hb);clear HB BK0 BK1 HO3 HO4 hb;have HB:=n0_;have BK0:=n1_;have BK1:=n2_;have HO3:=n3_;have HO4:=n4_;clear n0_ n1_ n2_ n3_ n4_;clear hm_0 hm_1 hm_2 hm_3 hm_4 hm_5 hm_6;have hm_0:=(blk_cell BK1.out 0).trans (show _=some (Value.int .i64 o) from rfl);have hm_1:=(blk_cell BK1.out 1).trans (show _=some (Value.bool td) from rfl);have hm_2:=(blk_cell BK1.out 2).trans (show _=some (Value.int .i64 tm) from rfl);have hm_3:=(blk_cell BK1.out 3).trans (show _=some (Value.slice Ak key.length ck) from rfl);have hm_4:=(blk_cell BK1.out 4).trans (show _=some (Value.slice Av val.length cv) from rfl);have hm_5:=(blk_cell BK1.out 5).trans (show _=some (Value.bool q1) from rfl);have hm_6:=(blk_cell BK1.out 6).trans (show _=some (Value.bool (!q2)) from rfl);obtain ⟨Ac,cc,rfl,hlc,hCc⟩:=Kd.R_reads ho;clear ho hCc hlc))
                clear hm_0 hm_1 hm_2 hm_3 hm_4 hm_5 hm_6
                simp only [spec_OldFrom.z,Prod.mk.injEq] at hz
                obtain ⟨rfl,rfl,rfl,rfl,rfl,rfl,rfl,rfl⟩:=hz
                have hz_0:=(blk_cell BK0.out 0).trans (show _=some (Value.int .i64 0) from rfl)
                have hz_1:=(blk_cell BK0.out 1).trans (show _=some (Value.bool false) from rfl)
                have hz_2:=(blk_cell BK0.out 2).trans (show _=some (Value.int .i64 0) from rfl)
                have hz_3:=(blk_cell BK0.out 3).trans (show _=some (Value.slice none 0 0) from rfl)
                have hz_4:=(blk_cell BK0.out 4).trans (show _=some (Value.slice none 0 0) from rfl)
                have hz_5:=(blk_cell BK0.out 5).trans (show _=some (Value.bool false) from rfl)
                have hz_6:=(blk_cell BK0.out 6).trans (show _=some (Value.bool false) from rfl)
                have hf_0:=blk_frozen BK0.out 0
                have hf_1:=blk_frozen BK0.out 1
                have hf_2:=blk_frozen BK0.out 2
                have hf_3:=blk_frozen BK0.out 3
                have hf_4:=blk_frozen BK0.out 4
                have hf_5:=blk_frozen BK0.out 5
                have hf_6:=blk_frozen BK0.out 6
                go_wp2
                refine sof_end g0 _ false rfl rfl rfl (sold_set7 BK0.out _ _ _ _ _ _ _) ?_
                exact ⟨_,_,rfl,Kd.R_nil _ _ _ _ _,Kd.R_nil _ _ _ _ _,by with_reducible exact below_set (below_set (below_set (below_set (below_set (below_set (below_set HB.out GE0.out) GE0.out) GE0.out) GE0.out) GE0.out) GE0.out) GE0.out⟩

/-! ### laws_sameInts: function 21 -/
def laws_sameInts.l0 : Nat→List Int→List Int→Int→Option (Bool)
  | 0,_,_,_=>none
  | k + 1,x0,x1,x5=>if x5 < (x0.length : Int) then (if 0 ≤ x5 then (if x5 < (x1.length : Int) then (if (rd x0 x5)=(rd x1 x5) then (laws_sameInts.l0 k x0 x1 (wrap64 (x5 + 1))) else (some false)) else (none)) else (none)) else (some true)
def laws_sameInts.f (k : Nat) (l0 : List Int) (l1 : List Int) : Option (Bool):=if (l0.length : Int)=(l1.length : Int) then (laws_sameInts.l0 k l0 l1 0) else (some false)
theorem laws_sameInts.mono_l : ∀ k,(∀ y0 y1 y2,LeO (laws_sameInts.l0 k y0 y1 y2) (laws_sameInts.l0 (k + 1) y0 y1 y2))
  | 0=>fun _ _ _ r h=>by simp [laws_sameInts.l0] at h
  | k + 1=>by
    have ih0:=laws_sameInts.mono_l k
    · intro y0 y1 y2
      unfold laws_sameInts.l0
      repeat' first
      | (with_reducible exact ih0 _ _ _)
      | (with_reducible exact LeO.refl _)
      | (with_reducible exact LeO.none _)
      | (with_reducible refine LeO.ite ?_ ?_)
      | (with_reducible refine LeO.bind ?_ (fun _=>?_))
      | exact ih0 _ _ _
      | exact LeO.none _
      | refine LeO.ite ?_ ?_
      | refine LeO.bind ?_ (fun _=>?_)
theorem laws_sameInts.mono : ∀ a0 a1 k,LeO (laws_sameInts.f k a0 a1) (laws_sameInts.f (k + 1) a0 a1):=by
  intro a0 a1 k
  have ih0:=laws_sameInts.mono_l k
  unfold laws_sameInts.f
  repeat' first
      | (with_reducible exact ih0 _ _ _)
      | (with_reducible exact LeO.refl _)
      | (with_reducible exact LeO.none _)
      | (with_reducible refine LeO.ite ?_ ?_)
      | (with_reducible refine LeO.bind ?_ (fun _=>?_))
      | exact ih0 _ _ _
      | exact LeO.none _
      | refine LeO.ite ?_ ?_
      | refine LeO.bind ?_ (fun _=>?_)
set_option maxHeartbeats 8000000 in
set_option maxRecDepth 100000 in
theorem laws_sameInts.calls (k : Nat) (A0 : Option Addr) (c0 : Nat) (l0 : List Int) (A1 : Option Addr) (c1 : Nat) (l1 : List Int) (r : Bool) (w : World) (hr0 : Kd.C (Kd.int .i64) w A0 l0.length l0) (hc0 : l0.length ≤ c0) (hr1 : Kd.C (Kd.int .i64) w A1 l1.length l1) (hc1 : l1.length ≤ c1) (h : laws_sameInts.f k l0 l1=some r) :
    Calls Try.prog 21 #[.slice A0 l0.length c0,.slice A1 l1.length c1] w fun e w'=>e = .returned (.bool r)∧Drawn0 w w':=by
  have HR0:=Aside0.mk hr0
  have HC0:=Aside0.mk hc0
  clear hr0 hc0
  have HR1:=Aside0.mk hr1
  have HC1:=Aside0.mk hc1
  clear hr1 hc1
  have H : (if (l0.length : Int)=(l1.length : Int) then (laws_sameInts.l0 k l0 l1 0) else (some false))=some r:=h
  clear h
  by_cases c3 : (l0.length : Int)=(l1.length : Int)
  · rw [if_pos c3] at H
    have c3b0 : ((l0.length : Int) == (l1.length : Int))=true:=beq_iff_eq.mpr c3
    have c3b1 : ((l0.length : Int) != (l1.length : Int))=false:=bne_eq_false_iff_eq.mpr c3
    have c3b2 : (l0.length == l1.length)=true:=by first|simpa using c3|(simp at c3 ⊢;omega)
    clear c3
    have H':=Aside0.mk H
    clear H
    go_enter Try.func21,Try.ntmps21
    go_wp2
    repeat (go_quiet (fail);try go_wp2)
    go_loopg [5] k (fun kq v5 w'=>∃ (x5_1 : Int),v5 = .int .i64 x5_1∧Aside0 (laws_sameInts.l0 kq l0 l1 x5_1=some r)∧Aside0 (kq ≤ k)∧Drawn0 w w')
    case atStart=>exact ⟨(0),(by first|rfl|(simp;done)|(simp [*];done)),H',⟨Nat.le_refl _⟩,by repeat (first|exact Drawn0.refl _|apply Drawn0.step)⟩
    case round =>
      clear H'
      try clear c1
      try clear c2
      try clear p2
      try clear c3
      try clear c3b0
      try clear c3b1
      try clear c3b2
      obtain ⟨x5_1,rfl,HA,HK1,⟨m1,rfl⟩⟩:=hrel
      cases gk with
      | zero=>exact absurd HA.out (by simp [laws_sameInts.l0])
      | succ k1 =>
        have H:=HA.out
        clear HA
        simp only [laws_sameInts.l0] at H
        by_cases c4 : x5_1 < (l0.length : Int)
        · rw [if_pos c4] at H
          have c4b0 : decide (x5_1 < (l0.length : Int))=true:=decide_eq_true c4
          clear c4
          by_cases c5 : 0 ≤ x5_1
          · rw [if_pos c5] at H
            have c5b0 : decide (0 ≤ x5_1)=true:=decide_eq_true c5
            clear c5
            by_cases c6 : x5_1 < (l1.length : Int)
            · rw [if_pos c6] at H
              have c6b0 : decide (x5_1 < (l1.length : Int))=true:=decide_eq_true c6
              clear c6
              by_cases c7 : (rd l0 x5_1)=(rd l1 x5_1)
              · rw [if_pos c7] at H
                have c7b0 : ((rd l0 x5_1) == (rd l1 x5_1))=true:=beq_iff_eq.mpr c7
                have c7b1 : ((rd l0 x5_1) != (rd l1 x5_1))=false:=bne_eq_false_iff_eq.mpr c7
                clear c7
                have H':=Aside0.mk H
                clear H
                have p396 : 0 ≤ (x5_1 : Int):=of_decide_eq_true (by first|(with_reducible assumption)|assumption)
                have q396 : x5_1 < (l0.length : Int):=of_decide_eq_true (by first|(with_reducible assumption)|assumption)
                obtain ⟨ad396,e396,hx396_0⟩:=Kd.at_int HR0.out x5_1 p396 q396
                cases e396
                replace p396:=eq_true p396
                replace q396:=eq_true q396
                have p397 : 0 ≤ (x5_1 : Int):=of_decide_eq_true (by first|(with_reducible assumption)|assumption)
                have q397 : x5_1 < (l1.length : Int):=of_decide_eq_true (by first|(with_reducible assumption)|assumption)
                obtain ⟨ad397,e397,hx397_0⟩:=Kd.at_int HR1.out x5_1 p397 q397
                cases e397
                replace p397:=eq_true p397
                replace q397:=eq_true q397
                go_wp2
                repeat (go_quiet (fail);try go_wp2)
                go_roundg k1
                case measure=>have:=HK1.out;omega
                case rel=>exact ⟨(wrap64 (x5_1 + 1)),(by first|rfl|(simp;done)|(simp [*];done)),H',⟨by have:=HK1.out;omega⟩,by repeat (first|exact Drawn0.refl _|apply Drawn0.step)⟩
              · rw [if_neg c7] at H
                have c7b0 : ((rd l0 x5_1) == (rd l1 x5_1))=false:=beq_eq_false_iff_ne.mpr c7
                have c7b1 : ((rd l0 x5_1) != (rd l1 x5_1))=true:=bne_iff_ne.mpr c7
                obtain rfl:=Option.some.inj H
                have p396 : 0 ≤ (x5_1 : Int):=of_decide_eq_true (by first|(with_reducible assumption)|assumption)
                have q396 : x5_1 < (l0.length : Int):=of_decide_eq_true (by first|(with_reducible assumption)|assumption)
                obtain ⟨ad396,e396,hx396_0⟩:=Kd.at_int HR0.out x5_1 p396 q396
                cases e396
                replace p396:=eq_true p396
                replace q396:=eq_true q396
                have p397 : 0 ≤ (x5_1 : Int):=of_decide_eq_true (by first|(with_reducible assumption)|assumption)
                have q397 : x5_1 < (l1.length : Int):=of_decide_eq_true (by first|(with_reducible assumption)|assumption)
                obtain ⟨ad397,e397,hx397_0⟩:=Kd.at_int HR1.out x5_1 p397 q397
                cases e397
                replace p397:=eq_true p397
                replace q397:=eq_true q397
                go_wp2
                repeat (go_quiet (fail);try go_wp2)
                go_ret
                exact ⟨by first|rfl|(simp;done)|(simp [*];done),by repeat (first|exact Drawn0.refl _|apply Drawn0.step)⟩
            · rw [if_neg c6] at H
              exact absurd H (by simp)
          · rw [if_neg c5] at H
            exact absurd H (by simp)
        · rw [if_neg c4] at H
          have c4b0 : decide (x5_1 < (l0.length : Int))=false:=decide_eq_false c4
          clear c4
          obtain rfl:=Option.some.inj H
          go_wp2
          repeat (go_quiet (fail);try go_wp2)
          go_ret
          exact ⟨by first|rfl|(simp;done)|(simp [*];done),by repeat (first|exact Drawn0.refl _|apply Drawn0.step)⟩
  · rw [if_neg c3] at H
    have c3b0 : ((l0.length : Int) == (l1.length : Int))=false:=beq_eq_false_iff_ne.mpr c3
    have c3b1 : ((l0.length : Int) != (l1.length : Int))=true:=bne_iff_ne.mpr c3
    have c3b2 : (l0.length == l1.length)=false:=by first|simpa using c3|(simp at c3 ⊢;omega)
    obtain rfl:=Option.some.inj H
    go_enter Try.func21,Try.ntmps21
    go_wp2
    repeat (go_quiet (fail);try go_wp2)
    go_ret
    exact ⟨by first|rfl|(simp;done)|(simp [*];done),by repeat (first|exact Drawn0.refl _|apply Drawn0.step)⟩

end Go.Proofs.Ytmpnedpokdaejaa.QFnOldTorn
