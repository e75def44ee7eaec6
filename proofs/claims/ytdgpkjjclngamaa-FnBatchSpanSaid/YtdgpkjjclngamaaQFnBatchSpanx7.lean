-- Written by this session's program wip/ownprint.py.
import Derived.Test.YtdgpkjjclngamaaQFnBatchSpanx0
import Derived.Test.YtdgpkjjclngamaaQFnBatchSpanx6
namespace Go.Proofs.Ytdgpkjjclngamaa.QFnBatchSpan
open Go.RowKit Go.Proofs.YtdgpkjjclngamaaW.PrintWords Go.Proofs.YtdgpkjjclngamaaW.PrintLast Go.Proofs.YtdgpkjjclngamaaW.PrintMore
attribute [local go_sem] max2_int min2_int max_two min_two max_three min_three max_four min_four   -- for this text's walks alone
set_option linter.unusedVariables false
set_option linter.unusedSimpArgs false

/-! ### spec_l5Records: function 78 -/
def spec_l5Records.l0 : Nat→List (S27)→Int→Option (Bool)
 | 0,_,_=>none
 | k + 1,x0,x3=>if x3 < (x0.length : Int) then (if 0 ≤ x3 then ((spec_RecordValid.f k ((rd_T27 x0 x3).f0) ((rd_T27 x0 x3).f1) ((rd_T27 x0 x3).f2) ((rd_T27 x0 x3).f3) ((rd_T27 x0 x3).f4) ((rd_T27 x0 x3).f5)).bind fun t264=>(if t264=true then (if x3 > 0 then (if 0 ≤ (wrap64 (x3 - 1)) then (if (wrap64 (x3 - 1)) < (x0.length : Int) then (if ((rd_T27 x0 (wrap64 (x3 - 1))).f0) ≥ ((rd_T27 x0 x3).f0) then (some false) else (spec_l5Records.l0 k x0 (wrap64 (x3 + 1)))) else (none)) else (none)) else (spec_l5Records.l0 k x0 (wrap64 (x3 + 1)))) else (some false))) else (none)) else ((spec_l6In.f (x0.length : Int) 1 6).bind fun t267=>(some t267))
def spec_l5Records.f (k : Nat) (l0 : List (S27)) : Option (Bool):=spec_l5Records.l0 k l0 0
theorem spec_l5Records.mono_l : ∀ k,(∀ y0 y1,LeO (spec_l5Records.l0 k y0 y1) (spec_l5Records.l0 (k + 1) y0 y1))
 | 0=>fun _ _ r h=>by simp [spec_l5Records.l0] at h
 | k + 1=>by
  have ih0:=spec_l5Records.mono_l k
  ·intro y0 y1
   unfold spec_l5Records.l0
   repeat' first
   | (with_reducible exact ih0 _ _)
   | (with_reducible exact spec_RecordValid.mono _ _ _ _ _ _ _)
   | (with_reducible exact LeO.refl _)
   | (with_reducible exact LeO.none _)
   | (with_reducible refine LeO.ite ?_ ?_)
   | (with_reducible refine LeO.bind ?_ (fun _=>?_))
   | exact ih0 _ _
   | exact spec_RecordValid.mono _ _ _ _ _ _ _
   | exact LeO.none _
   | refine LeO.ite ?_ ?_
   | refine LeO.bind ?_ (fun _=>?_)
theorem spec_l5Records.mono : ∀ a0 k,LeO (spec_l5Records.f k a0) (spec_l5Records.f (k + 1) a0):=by
 intro a0 k
 have ih0:=spec_l5Records.mono_l k
 unfold spec_l5Records.f
 repeat' first
   | (with_reducible exact ih0 _ _)
   | (with_reducible exact spec_RecordValid.mono _ _ _ _ _ _ _)
   | (with_reducible exact LeO.refl _)
   | (with_reducible exact LeO.none _)
   | (with_reducible refine LeO.ite ?_ ?_)
   | (with_reducible refine LeO.bind ?_ (fun _=>?_))
   | exact ih0 _ _
   | exact spec_RecordValid.mono _ _ _ _ _ _ _
   | exact LeO.none _
   | refine LeO.ite ?_ ?_
   | refine LeO.bind ?_ (fun _=>?_)
def spec_l5Records.T4 : Bool × List (List Nat × List Nat):=(true,[([],[]),([],[]),([0,1],[0,1]),([2],[2]),([3],[3]),([4],[4]),([5,4],[5]),([6],[6]),([7,6],[6,7]),([8,6,6],[6,8]),([9],[9]),([9],[9]),([11,9],[9,11]),([10,12,9],[9,10,12]),([13,9],[9,13]),([14,9],[9,14]),([9],[9]),([9],[9]),([16,17,9],[9,16,17]),([18,9],[9,18]),([19,9],[9,19]),([15,20,9],[9,15,20]),([9,21,6],[6,9,21]),([6,22],[6,22])])
def spec_l5Records.B4 : List Nat:=[0,0,3,7,15,31,63,127,255,511,1023,1023,3071,8191,16383,32767,1023,1023,197631,459775,984063,2097151,4194303,8388607]
theorem spec_l5Records.tab4 : rtab .any (opsOf Try.f78 4)=spec_l5Records.T4:=by kernel_rfl
theorem spec_l5Records.bits4 : waitsOk spec_l5Records.T4.2 spec_l5Records.B4=true:=by kernel_rfl
set_option maxHeartbeats 8000000 in
set_option maxRecDepth 100000 in
theorem spec_l5Records.calls (k : Nat) (A0 : Option Addr) (c0 : Nat) (l0 : List (S27)) (r : Bool) (w : World) (hr0 : Kd.C k27 w A0 l0.length l0) (hc0 : l0.length ≤ c0) (h : spec_l5Records.f k l0=some r) :
  Calls Try.prog 78 #[.slice A0 l0.length c0] w fun e w'=>e = .returned (.bool r)∧Below w.heap.size w w':=by
 have hu27:=Try.underlying27
 have HR0:=Aside0.mk hr0
 have HC0:=Aside0.mk hc0
 clear hr0 hc0
 have HB:=Aside0.mk (Below.refl w.heap.size w)
 have H : (spec_l5Records.l0 k l0 0)=some r:=h
 clear h
 have H':=Aside0.mk H
 clear H
 go_enter Try.func78,Try.ntmps78
 go_wp2
 go_loopg [3] k (fun kq v3 w'=>∃ (x3_1 : Int),v3 = .int .i64 x3_1∧Aside0 (spec_l5Records.l0 kq l0 x3_1=some r)∧Aside0 (kq ≤ k)∧Aside0 (Below w.heap.size w w'))
 case atStart=>exact ⟨(0),(by first|rfl|(simp;done)|(simp [*];done)),H',⟨Nat.le_refl _⟩,⟨by repeat (first|(with_reducible first|exact HB.out|apply below_alloc|apply pw_below_drewN|apply below_drew1)|exact HB.out)⟩⟩
 case round =>
  clear H'
  obtain ⟨x3_1,rfl,HA,HK1,HB⟩:=hrel
  cases gk with
  | zero=>exact absurd HA.out (by simp [spec_l5Records.l0])
  | succ k1 =>
   have H:=HA.out
   clear HA
   simp only [spec_l5Records.l0] at H
   by_cases c2 : x3_1 < (l0.length : Int)
   ·rw [if_pos c2] at H
    have c2b0 : decide (x3_1 < (l0.length : Int))=true:=decide_eq_true c2
    clear c2
    by_cases c3 : 0 ≤ x3_1
    ·rw [if_pos c3] at H
     have c3b0 : decide (0 ≤ x3_1)=true:=decide_eq_true c3
     clear c3
     replace H:=Option.bind_eq_some_iff.mp H
     obtain ⟨t264,A40,H⟩:=H
     replace H : (if t264=true then (if x3_1 > 0 then (if 0 ≤ (wrap64 (x3_1 - 1)) then (if (wrap64 (x3_1 - 1)) < (l0.length : Int) then (if ((rd_T27 l0 (wrap64 (x3_1 - 1))).f0) ≥ ((rd_T27 l0 x3_1).f0) then (some false) else (spec_l5Records.l0 k1 l0 (wrap64 (x3_1 + 1)))) else (none)) else (none)) else (spec_l5Records.l0 k1 l0 (wrap64 (x3_1 + 1)))) else (some false))=some r:=H
     have A4:=Aside0.mk A40
     clear A40
     by_cases c5 : t264=true
     ·subst c5
      have H1 : (if x3_1 > 0 then (if 0 ≤ (wrap64 (x3_1 - 1)) then (if (wrap64 (x3_1 - 1)) < (l0.length : Int) then (if ((rd_T27 l0 (wrap64 (x3_1 - 1))).f0) ≥ ((rd_T27 l0 x3_1).f0) then (some false) else (spec_l5Records.l0 k1 l0 (wrap64 (x3_1 + 1)))) else (none)) else (none)) else (spec_l5Records.l0 k1 l0 (wrap64 (x3_1 + 1))))=some r:=by rw [if_pos rfl] at H;exact H
      clear H
      have H:=H1
      clear H1
      by_cases c6 : x3_1 > 0
      ·rw [if_pos c6] at H
       have c6b0 : decide (0 < x3_1)=true:=decide_eq_true c6
       clear c6
       obtain ⟨ji7,hji7⟩ : ∃ j_ : Int,(wrap64 (x3_1 - 1))=j_:=⟨_,rfl⟩
       replace H : (if 0 ≤ (ji7) then (if (ji7) < (l0.length : Int) then (if ((rd_T27 l0 (ji7)).f0) ≥ ((rd_T27 l0 x3_1).f0) then (some false) else (spec_l5Records.l0 k1 l0 (wrap64 (x3_1 + 1)))) else (none)) else (none))=some r:=by first|(rw [hji7] at H;exact H)|(simp only [hji7] at H ⊢;exact H)
       (try rw [hji7] at A4)
       have hji7w : (IntKind.i64.wrap (x3_1 - 1))=ji7:=(i64_w _).trans hji7
       by_cases c8 : 0 ≤ (ji7)
       ·rw [if_pos c8] at H
        have c8b0 : decide (0 ≤ (ji7))=true:=decide_eq_true c8
        clear c8
        by_cases c9 : (ji7) < (l0.length : Int)
        ·rw [if_pos c9] at H
         have c9b0 : decide ((ji7) < (l0.length : Int))=true:=decide_eq_true c9
         clear c9
         by_cases c10 : ((rd_T27 l0 (ji7)).f0) ≥ ((rd_T27 l0 x3_1).f0)
         ·rw [if_pos c10] at H
          have c10b0 : decide (((rd_T27 l0 x3_1).f0) ≤ ((rd_T27 l0 (ji7)).f0))=true:=decide_eq_true c10
          clear c10
          obtain rfl:=Option.some.inj H
          try go_wp2
          have n0_:=Aside0.mk (below_drew1 HB.out)
          clear HB
          have HB:=n0_
          clear n0_
          have p263 : 0 ≤ (x3_1 : Int):=of_decide_eq_true (by first|(with_reducible assumption)|assumption)
          have q263 : x3_1 < (l0.length : Int):=of_decide_eq_true (by first|(with_reducible assumption)|assumption)
          obtain ⟨ad263,A263_3,c263_3,A263_5,c263_5,e263,hx263_0,hx263_1,hx263_2,hx263_3,hx263_4,hx263_5,hl263_3,hi263_3,hl263_5,hi263_5⟩:=at_T27 HR0.out x3_1 p263 q263
          have hw263_5:=hx263_5
          have hw263_4:=hx263_4
          have hw263_3:=hx263_3
          have hw263_2:=hx263_2
          have hw263_1:=hx263_1
          have hw263_0:=hx263_0
          cases e263
          replace hx263_0:=(HB.out.cell (World.block_lt_of_cell? w _ hx263_0)).trans hx263_0
          replace hx263_1:=(HB.out.cell (World.block_lt_of_cell? w _ hx263_1)).trans hx263_1
          replace hx263_2:=(HB.out.cell (World.block_lt_of_cell? w _ hx263_2)).trans hx263_2
          replace hx263_3:=(HB.out.cell (World.block_lt_of_cell? w _ hx263_3)).trans hx263_3
          replace hx263_4:=(HB.out.cell (World.block_lt_of_cell? w _ hx263_4)).trans hx263_4
          replace hx263_5:=(HB.out.cell (World.block_lt_of_cell? w _ hx263_5)).trans hx263_5
          have HR263_3:=Aside0.mk hi263_3
          have HC263_3:=Aside0.mk hl263_3
          clear hi263_3 hl263_3
          have HR263_5:=Aside0.mk hi263_5
          have HC263_5:=Aside0.mk hl263_5
          clear hi263_5 hl263_5
          replace p263:=eq_true p263
          replace q263:=eq_true q263
          have p265 : 0 ≤ ((ji7) : Int):=of_decide_eq_true (by first|(with_reducible assumption)|assumption)
          have q265 : (ji7) < (l0.length : Int):=of_decide_eq_true (by first|(with_reducible assumption)|assumption)
          obtain ⟨ad265,A265_3,c265_3,A265_5,c265_5,e265,hx265_0,hx265_1,hx265_2,hx265_3,hx265_4,hx265_5,hl265_3,hi265_3,hl265_5,hi265_5⟩:=at_T27 HR0.out (ji7) p265 q265
          have hw265_5:=hx265_5
          have hw265_4:=hx265_4
          have hw265_3:=hx265_3
          have hw265_2:=hx265_2
          have hw265_1:=hx265_1
          have hw265_0:=hx265_0
          obtain rfl : ad263=ad265:=(by injection e265)
          replace hx265_0:=(HB.out.cell (World.block_lt_of_cell? w _ hx265_0)).trans hx265_0
          replace hx265_1:=(HB.out.cell (World.block_lt_of_cell? w _ hx265_1)).trans hx265_1
          replace hx265_2:=(HB.out.cell (World.block_lt_of_cell? w _ hx265_2)).trans hx265_2
          replace hx265_3:=(HB.out.cell (World.block_lt_of_cell? w _ hx265_3)).trans hx265_3
          replace hx265_4:=(HB.out.cell (World.block_lt_of_cell? w _ hx265_4)).trans hx265_4
          replace hx265_5:=(HB.out.cell (World.block_lt_of_cell? w _ hx265_5)).trans hx265_5
          have HR265_3:=Aside0.mk hi265_3
          have HC265_3:=Aside0.mk hl265_3
          clear hi265_3 hl265_3
          have HR265_5:=Aside0.mk hi265_5
          have HC265_5:=Aside0.mk hl265_5
          clear hi265_5 hl265_5
          replace p265:=eq_true p265
          replace q265:=eq_true q265
          have p266 : 0 ≤ (x3_1 : Int):=of_decide_eq_true (by first|(with_reducible assumption)|assumption)
          have q266 : x3_1 < (l0.length : Int):=of_decide_eq_true (by first|(with_reducible assumption)|assumption)
          obtain ⟨ad266,A266_3,c266_3,A266_5,c266_5,e266,hx266_0,hx266_1,hx266_2,hx266_3,hx266_4,hx266_5,hl266_3,hi266_3,hl266_5,hi266_5⟩:=at_T27 HR0.out x3_1 p266 q266
          have hw266_5:=hx266_5
          have hw266_4:=hx266_4
          have hw266_3:=hx266_3
          have hw266_2:=hx266_2
          have hw266_1:=hx266_1
          have hw266_0:=hx266_0
          obtain rfl : ad263=ad266:=(by injection e266)
          replace hx266_0:=(HB.out.cell (World.block_lt_of_cell? w _ hx266_0)).trans hx266_0
          replace hx266_1:=(HB.out.cell (World.block_lt_of_cell? w _ hx266_1)).trans hx266_1
          replace hx266_2:=(HB.out.cell (World.block_lt_of_cell? w _ hx266_2)).trans hx266_2
          replace hx266_3:=(HB.out.cell (World.block_lt_of_cell? w _ hx266_3)).trans hx266_3
          replace hx266_4:=(HB.out.cell (World.block_lt_of_cell? w _ hx266_4)).trans hx266_4
          replace hx266_5:=(HB.out.cell (World.block_lt_of_cell? w _ hx266_5)).trans hx266_5
          have HR266_3:=Aside0.mk hi266_3
          have HC266_3:=Aside0.mk hl266_3
          clear hi266_3 hl266_3
          have HR266_5:=Aside0.mk hi266_5
          have HC266_5:=Aside0.mk hl266_5
          clear hi266_5 hl266_5
          replace p266:=eq_true p266
          replace q266:=eq_true q266
          refine start_ (n:=24) (S:=fun w'=>w'.cell? (ad263.add ((x3_1).toNat * 6))=some (.int .i64 ((rd_T27 l0 x3_1).f0))∧w'.cell? ⟨(ad263.add ((x3_1).toNat * 6)).block,(ad263.add ((x3_1).toNat * 6)).off + 1,none⟩ = some (.int .i64 ((rd_T27 l0 x3_1).f1))∧w'.cell? ⟨(ad263.add ((x3_1).toNat * 6)).block,(ad263.add ((x3_1).toNat * 6)).off + 2,none⟩ = some (.bool ((rd_T27 l0 x3_1).f2))∧w'.cell? ⟨(ad263.add ((x3_1).toNat * 6)).block,(ad263.add ((x3_1).toNat * 6)).off + 3,none⟩ = some (.slice A263_3 ((rd_T27 l0 x3_1).f3).length c263_3)∧w'.cell? ⟨(ad263.add ((x3_1).toNat * 6)).block,(ad263.add ((x3_1).toNat * 6)).off + 4,none⟩ = some (.bool ((rd_T27 l0 x3_1).f4))∧w'.cell? ⟨(ad263.add ((x3_1).toNat * 6)).block,(ad263.add ((x3_1).toNat * 6)).off + 5,none⟩ = some (.slice A263_5 ((rd_T27 l0 x3_1).f5).length c263_5)∧w'.cell? (ad263.add (((ji7)).toNat * 6))=some (.int .i64 ((rd_T27 l0 (ji7)).f0))∧w'.cell? ⟨(ad263.add (((ji7)).toNat * 6)).block,(ad263.add (((ji7)).toNat * 6)).off + 1,none⟩ = some (.int .i64 ((rd_T27 l0 (ji7)).f1))∧w'.cell? ⟨(ad263.add (((ji7)).toNat * 6)).block,(ad263.add (((ji7)).toNat * 6)).off + 2,none⟩ = some (.bool ((rd_T27 l0 (ji7)).f2))∧w'.cell? ⟨(ad263.add (((ji7)).toNat * 6)).block,(ad263.add (((ji7)).toNat * 6)).off + 3,none⟩ = some (.slice A265_3 ((rd_T27 l0 (ji7)).f3).length c265_3)∧w'.cell? ⟨(ad263.add (((ji7)).toNat * 6)).block,(ad263.add (((ji7)).toNat * 6)).off + 4,none⟩ = some (.bool ((rd_T27 l0 (ji7)).f4))∧w'.cell? ⟨(ad263.add (((ji7)).toNat * 6)).block,(ad263.add (((ji7)).toNat * 6)).off + 5,none⟩ = some (.slice A265_5 ((rd_T27 l0 (ji7)).f5).length c265_5)∧w'.cell? (ad263.add ((x3_1).toNat * 6))=some (.int .i64 ((rd_T27 l0 x3_1).f0))∧w'.cell? ⟨(ad263.add ((x3_1).toNat * 6)).block,(ad263.add ((x3_1).toNat * 6)).off + 1,none⟩ = some (.int .i64 ((rd_T27 l0 x3_1).f1))∧w'.cell? ⟨(ad263.add ((x3_1).toNat * 6)).block,(ad263.add ((x3_1).toNat * 6)).off + 2,none⟩ = some (.bool ((rd_T27 l0 x3_1).f2))∧w'.cell? ⟨(ad263.add ((x3_1).toNat * 6)).block,(ad263.add ((x3_1).toNat * 6)).off + 3,none⟩ = some (.slice A266_3 ((rd_T27 l0 x3_1).f3).length c266_3)∧w'.cell? ⟨(ad263.add ((x3_1).toNat * 6)).block,(ad263.add ((x3_1).toNat * 6)).off + 4,none⟩ = some (.bool ((rd_T27 l0 x3_1).f4))∧w'.cell? ⟨(ad263.add ((x3_1).toNat * 6)).block,(ad263.add ((x3_1).toNat * 6)).off + 5,none⟩ = some (.slice A266_5 ((rd_T27 l0 x3_1).f5).length c266_5)) (ds:=[]) #[false,false,false,false,false,false,false,false,false,false,false,false,false,false,false,false,false,false,false,false,false,false,false,false] (by kernel_rfl) rfl rfl ⟨((HB.out.cell (World.block_lt_of_cell? w _ hw263_0)).trans hw263_0),((HB.out.cell (World.block_lt_of_cell? w _ hw263_1)).trans hw263_1),((HB.out.cell (World.block_lt_of_cell? w _ hw263_2)).trans hw263_2),((HB.out.cell (World.block_lt_of_cell? w _ hw263_3)).trans hw263_3),((HB.out.cell (World.block_lt_of_cell? w _ hw263_4)).trans hw263_4),((HB.out.cell (World.block_lt_of_cell? w _ hw263_5)).trans hw263_5),((HB.out.cell (World.block_lt_of_cell? w _ hw265_0)).trans hw265_0),((HB.out.cell (World.block_lt_of_cell? w _ hw265_1)).trans hw265_1),((HB.out.cell (World.block_lt_of_cell? w _ hw265_2)).trans hw265_2),((HB.out.cell (World.block_lt_of_cell? w _ hw265_3)).trans hw265_3),((HB.out.cell (World.block_lt_of_cell? w _ hw265_4)).trans hw265_4),((HB.out.cell (World.block_lt_of_cell? w _ hw265_5)).trans hw265_5),((HB.out.cell (World.block_lt_of_cell? w _ hw266_0)).trans hw266_0),((HB.out.cell (World.block_lt_of_cell? w _ hw266_1)).trans hw266_1),((HB.out.cell (World.block_lt_of_cell? w _ hw266_2)).trans hw266_2),((HB.out.cell (World.block_lt_of_cell? w _ hw266_3)).trans hw266_3),((HB.out.cell (World.block_lt_of_cell? w _ hw266_4)).trans hw266_4),((HB.out.cell (World.block_lt_of_cell? w _ hw266_5)).trans hw266_5)⟩ (fun hHeld=>?_);refine with_tabW spec_l5Records.tab4 spec_l5Records.bits4 (fun HT_ HW_=>?_)
          generalize wr.drew=w11 at HB HR263_3 HR263_5 HR265_3 HR265_5 HR266_3 HR266_5 hx263_0 hx263_1 hx263_2 hx263_3 hx263_4 hx263_5 hx265_0 hx265_1 hx265_2 hx265_3 hx265_4 hx265_5 hx266_0 hx266_1 hx266_2 hx266_3 hx266_4 hx266_5 hHeld ⊢
          refine pure_ (i:=0) (N:=some 10) (v:=?_) (a':=?_) #[true,false,false,false,false,false,false,false,false,false,false,false,false,false,false,false,false,false,false,false,false,false,false,false] rfl rfl (any_of HT_.out (by kernel_rfl)) (fun _ _ _ h=>h) (Or.inl ⟨by rfl,?_⟩) ?_ ?_
          rotate_left
          ·intro w'
           go_simp
           with_reducible rfl
          rotate_left
          ·simp only [Act.put,List.setIfInBounds_toArray,List.set_cons_zero,List.set_cons_succ,i64_w,i32_w]
           rfl
          refine pure_ (i:=1) (N:=some 11) (v:=?_) (a':=?_) #[true,true,false,false,false,false,false,false,false,false,false,false,false,false,false,false,false,false,false,false,false,false,false,false] rfl rfl (any_of HT_.out (by kernel_rfl)) (fun _ _ _ h=>h) (Or.inl ⟨by rfl,?_⟩) ?_ ?_
          rotate_left
          ·intro w'
           go_simp
           with_reducible rfl
          rotate_left
          ·simp only [Act.put,List.setIfInBounds_toArray,List.set_cons_zero,List.set_cons_succ,i64_w,i32_w]
           rfl
          refine pure_ (i:=2) (N:=some 12) (v:=?_) (a':=?_) #[true,true,true,false,false,false,false,false,false,false,false,false,false,false,false,false,false,false,false,false,false,false,false,false] rfl rfl (any_of HT_.out (by kernel_rfl)) (fun _ _ _ h=>h) (Or.inl ⟨by rfl,?_⟩) ?_ ?_
          rotate_left
          ·intro w'
           go_simp
           with_reducible rfl
          rotate_left
          ·simp only [Act.put,List.setIfInBounds_toArray,List.set_cons_zero,List.set_cons_succ,i64_w,i32_w]
           rfl
          refine take_ (i:=3) (N:=some 13) (v:=?_) (a':=?_) #[true,true,true,true,false,false,false,false,false,false,false,false,false,false,false,false,false,false,false,false,false,false,false,false] rfl rfl (take_ofW HT_.out HW_.out (by kernel_rfl)) (fun _ _ _ h=>h) (Or.inl ⟨by rfl,?_⟩) hHeld ?_ ?_
          rotate_left
          ·rintro w' ⟨s0,s1,s2,s3,s4,s5,s6,s7,s8,s9,s10,s11,s12,s13,s14,s15,s16,s17⟩
           go_simp
           with_reducible rfl
          rotate_left
          ·simp only [Act.put,List.setIfInBounds_toArray,List.set_cons_zero,List.set_cons_succ,i64_w,i32_w]
           rfl
          refine one_ (i:=4) (N:=some 14) #[true,true,true,true,true,false,false,false,false,false,false,false,false,false,false,false,false,false,false,false,false,false,false,false] rfl rfl (one_of HT_.out (by kernel_rfl)) (by decide) (fun K hK=>?_)
          refine goes_ Try.func16 (by kernel_rfl) rfl #[.agg #[.int .i64 ((rd_T27 l0 x3_1).f0),.int .i64 ((rd_T27 l0 x3_1).f1),.bool ((rd_T27 l0 x3_1).f2),.slice A263_3 ((rd_T27 l0 x3_1).f3).length c263_3,.bool ((rd_T27 l0 x3_1).f4),.slice A263_5 ((rd_T27 l0 x3_1).f5).length c263_5]] (by rfl) rfl rfl (by (try simp only [List.map_toArray,List.map_cons,List.map_nil]);first|done|rfl|(simp only [List.length_drop,List.length_take];rfl)) ?_
          with_reducible refine (spec_RecordValid.calls k1 ((rd_T27 l0 x3_1).f0) ((rd_T27 l0 x3_1).f1) ((rd_T27 l0 x3_1).f2) _ _ ((rd_T27 l0 x3_1).f3) ((rd_T27 l0 x3_1).f4) _ _ ((rd_T27 l0 x3_1).f5) true _ ?side1 ?side2 ?side3 ?side4 A4.out).mono ?_
          (case side1=>repeat (first|exact (Kd.C_below HR263_3.out HB.out)|(with_reducible refine Kd.C_alloc ?_ _)|(with_reducible refine Kd.C_drewN ?_ _)|(with_reducible refine Kd.C_drew ?_)))
          (case side2=>exact HC263_3.out)
          (case side3=>repeat (first|exact (Kd.C_below HR263_5.out HB.out)|(with_reducible refine Kd.C_alloc ?_ _)|(with_reducible refine Kd.C_drewN ?_ _)|(with_reducible refine Kd.C_drew ?_)))
          (case side4=>exact HC263_5.out)
          rintro e w12 ⟨rfl,hb⟩
          refine ⟨_,rfl,?_⟩
          have n0_:=Aside0.mk (below_step (by repeat (first|(with_reducible first|exact HB.out|apply below_alloc|apply pw_below_drewN|apply below_drew1)|exact HB.out)) hb)
          clear HB
          have HB:=n0_
          clear n0_
          (try clear hb)
          (try clear hb2)
          (try clear hk)
          (try clear hi)
          refine hK.out _ _ ⟨((HB.out.cell (World.block_lt_of_cell? w _ hw263_0)).trans hw263_0),((HB.out.cell (World.block_lt_of_cell? w _ hw263_1)).trans hw263_1),((HB.out.cell (World.block_lt_of_cell? w _ hw263_2)).trans hw263_2),((HB.out.cell (World.block_lt_of_cell? w _ hw263_3)).trans hw263_3),((HB.out.cell (World.block_lt_of_cell? w _ hw263_4)).trans hw263_4),((HB.out.cell (World.block_lt_of_cell? w _ hw263_5)).trans hw263_5),((HB.out.cell (World.block_lt_of_cell? w _ hw265_0)).trans hw265_0),((HB.out.cell (World.block_lt_of_cell? w _ hw265_1)).trans hw265_1),((HB.out.cell (World.block_lt_of_cell? w _ hw265_2)).trans hw265_2),((HB.out.cell (World.block_lt_of_cell? w _ hw265_3)).trans hw265_3),((HB.out.cell (World.block_lt_of_cell? w _ hw265_4)).trans hw265_4),((HB.out.cell (World.block_lt_of_cell? w _ hw265_5)).trans hw265_5),((HB.out.cell (World.block_lt_of_cell? w _ hw266_0)).trans hw266_0),((HB.out.cell (World.block_lt_of_cell? w _ hw266_1)).trans hw266_1),((HB.out.cell (World.block_lt_of_cell? w _ hw266_2)).trans hw266_2),((HB.out.cell (World.block_lt_of_cell? w _ hw266_3)).trans hw266_3),((HB.out.cell (World.block_lt_of_cell? w _ hw266_4)).trans hw266_4),((HB.out.cell (World.block_lt_of_cell? w _ hw266_5)).trans hw266_5)⟩ (fun hHeld=>?_)
          clear hK K
          refine norm_ (a':=?_) ?_ ?_
          rotate_left
          ·show Act.put _ (some 14) _=_
           simp only [Act.put,List.setIfInBounds_toArray,List.set_cons_zero,List.set_cons_succ,i64_w,i32_w]
           rfl
          refine pure_ (i:=5) (N:=some 15) (v:=?_) (a':=?_) #[true,true,true,true,true,true,false,false,false,false,false,false,false,false,false,false,false,false,false,false,false,false,false,false] rfl rfl (any_of HT_.out (by kernel_rfl)) (fun _ _ _ h=>h) (Or.inl ⟨by rfl,?_⟩) ?_ ?_
          rotate_left
          ·intro w'
           go_simp
           with_reducible rfl
          rotate_left
          ·simp only [Act.put,List.setIfInBounds_toArray,List.set_cons_zero,List.set_cons_succ,i64_w,i32_w]
           rfl
          refine pure_ (i:=6) (N:=some 16) (v:=?_) (a':=?_) #[true,true,true,true,true,true,true,false,false,false,false,false,false,false,false,false,false,false,false,false,false,false,false,false] rfl rfl (any_of HT_.out (by kernel_rfl)) (fun _ _ _ h=>h) (Or.inl ⟨by rfl,?_⟩) ?_ ?_
          rotate_left
          ·intro w'
           go_simp
           with_reducible rfl
          rotate_left
          ·simp only [Act.put,List.setIfInBounds_toArray,List.set_cons_zero,List.set_cons_succ,i64_w,i32_w]
           rfl
          refine pure_ (i:=7) (N:=some 17) (v:=?_) (a':=?_) #[true,true,true,true,true,true,true,true,false,false,false,false,false,false,false,false,false,false,false,false,false,false,false,false] rfl rfl (any_of HT_.out (by kernel_rfl)) (fun _ _ _ h=>h) (Or.inl ⟨by rfl,?_⟩) ?_ ?_
          rotate_left
          ·intro w'
           go_simp
           with_reducible rfl
          rotate_left
          ·simp only [Act.put,List.setIfInBounds_toArray,List.set_cons_zero,List.set_cons_succ,i64_w,i32_w]
           rfl
          refine pure_ (i:=8) (N:=some 18) (v:=?_) (a':=?_) #[true,true,true,true,true,true,true,true,true,false,false,false,false,false,false,false,false,false,false,false,false,false,false,false] rfl rfl (any_of HT_.out (by kernel_rfl)) (fun _ _ _ h=>h) (Or.inl ⟨by rfl,?_⟩) ?_ ?_
          rotate_left
          ·intro w'
           go_simp
           with_reducible rfl
          rotate_left
          ·simp only [Act.put,List.setIfInBounds_toArray,List.set_cons_zero,List.set_cons_succ,i64_w,i32_w]
           rfl
          refine pure_ (i:=9) (N:=some 19) (v:=?_) (a':=?_) #[true,true,true,true,true,true,true,true,true,true,false,false,false,false,false,false,false,false,false,false,false,false,false,false] rfl rfl (any_of HT_.out (by kernel_rfl)) (fun _ _ _ h=>h) (Or.inl ⟨by rfl,?_⟩) ?_ ?_
          rotate_left
          ·intro w'
           go_simp
           with_reducible rfl
          rotate_left
          ·simp only [Act.put,List.setIfInBounds_toArray,List.set_cons_zero,List.set_cons_succ,i64_w,i32_w]
           rfl
          refine pure_ (i:=10) (N:=some 20) (v:=?_) (a':=?_) #[true,true,true,true,true,true,true,true,true,true,true,false,false,false,false,false,false,false,false,false,false,false,false,false] rfl rfl (any_of HT_.out (by kernel_rfl)) (fun _ _ _ h=>h) (Or.inl ⟨by rfl,?_⟩) ?_ ?_
          rotate_left
          ·intro w'
           go_simp
           with_reducible rfl
          rotate_left
          ·simp only [Act.put,List.setIfInBounds_toArray,List.set_cons_zero,List.set_cons_succ,i64_w,i32_w]
           rfl
          refine pure_ (i:=11) (N:=some 21) (v:=?_) (a':=?_) #[true,true,true,true,true,true,true,true,true,true,true,true,false,false,false,false,false,false,false,false,false,false,false,false] rfl rfl (any_of HT_.out (by kernel_rfl)) (fun _ _ _ h=>h) (Or.inl ⟨by rfl,?_⟩) ?_ ?_
          rotate_left
          ·intro w'
           go_simp
           with_reducible rfl
          rotate_left
          ·simp only [Act.put,List.setIfInBounds_toArray,List.set_cons_zero,List.set_cons_succ,i64_w,i32_w]
           rfl
          refine pure_ (i:=12) (N:=some 22) (v:=?_) (a':=?_) #[true,true,true,true,true,true,true,true,true,true,true,true,true,false,false,false,false,false,false,false,false,false,false,false] rfl rfl (any_of HT_.out (by kernel_rfl)) (fun _ _ _ h=>h) (Or.inl ⟨by rfl,?_⟩) ?_ ?_
          rotate_left
          ·intro w'
           go_simp
           with_reducible rfl
          rotate_left
          ·simp only [Act.put,List.setIfInBounds_toArray,List.set_cons_zero,List.set_cons_succ,i64_w,i32_w]
           rfl
          refine pure_ (i:=13) (N:=some 23) (v:=?_) (a':=?_) #[true,true,true,true,true,true,true,true,true,true,true,true,true,true,false,false,false,false,false,false,false,false,false,false] rfl rfl (any_of HT_.out (by kernel_rfl)) (fun _ _ _ h=>h) (Or.inl ⟨by rfl,?_⟩) ?_ ?_
          rotate_left
          ·intro w'
           go_simp
           with_reducible rfl
          rotate_left
          ·simp only [Act.put,List.setIfInBounds_toArray,List.set_cons_zero,List.set_cons_succ,i64_w,i32_w]
           rfl
          refine pure_ (i:=14) (N:=some 24) (v:=?_) (a':=?_) #[true,true,true,true,true,true,true,true,true,true,true,true,true,true,true,false,false,false,false,false,false,false,false,false] rfl rfl (any_of HT_.out (by kernel_rfl)) (fun _ _ _ h=>h) (Or.inl ⟨by rfl,?_⟩) ?_ ?_
          rotate_left
          ·intro w'
           go_simp
           with_reducible rfl
          rotate_left
          ·simp only [Act.put,List.setIfInBounds_toArray,List.set_cons_zero,List.set_cons_succ,i64_w,i32_w]
           rfl
          refine pure_ (i:=16) (N:=some 26) (v:=?_) (a':=?_) #[true,true,true,true,true,true,true,true,true,true,true,true,true,true,true,false,true,false,false,false,false,false,false,false] rfl rfl (any_of HT_.out (by kernel_rfl)) (fun _ _ _ h=>h) (Or.inl ⟨by rfl,?_⟩) ?_ ?_
          rotate_left
          ·intro w'
           go_simp
           with_reducible rfl
          rotate_left
          ·simp only [Act.put,List.setIfInBounds_toArray,List.set_cons_zero,List.set_cons_succ,i64_w,i32_w]
           rfl
          refine pure_ (i:=17) (N:=some 27) (v:=?_) (a':=?_) #[true,true,true,true,true,true,true,true,true,true,true,true,true,true,true,false,true,true,false,false,false,false,false,false] rfl rfl (any_of HT_.out (by kernel_rfl)) (fun _ _ _ h=>h) (Or.inl ⟨by rfl,?_⟩) ?_ ?_
          rotate_left
          ·intro w'
           go_simp
           with_reducible rfl
          rotate_left
          ·simp only [Act.put,List.setIfInBounds_toArray,List.set_cons_zero,List.set_cons_succ,i64_w,i32_w]
           rfl
          refine pure_ (i:=18) (N:=some 28) (v:=?_) (a':=?_) #[true,true,true,true,true,true,true,true,true,true,true,true,true,true,true,false,true,true,true,false,false,false,false,false] rfl rfl (any_of HT_.out (by kernel_rfl)) (fun _ _ _ h=>h) (Or.inl ⟨by rfl,?_⟩) ?_ ?_
          rotate_left
          ·intro w'
           go_simp
           with_reducible rfl
          rotate_left
          ·simp only [Act.put,List.setIfInBounds_toArray,List.set_cons_zero,List.set_cons_succ,i64_w,i32_w]
           rfl
          refine pure_ (i:=19) (N:=some 29) (v:=?_) (a':=?_) #[true,true,true,true,true,true,true,true,true,true,true,true,true,true,true,false,true,true,true,true,false,false,false,false] rfl rfl (any_of HT_.out (by kernel_rfl)) (fun _ _ _ h=>h) (Or.inl ⟨by rfl,?_⟩) ?_ ?_
          rotate_left
          ·intro w'
           go_simp
           with_reducible rfl
          rotate_left
          ·simp only [Act.put,List.setIfInBounds_toArray,List.set_cons_zero,List.set_cons_succ,i64_w,i32_w]
           rfl
          refine take_ (i:=15) (N:=some 25) (v:=?_) (a':=?_) #[true,true,true,true,true,true,true,true,true,true,true,true,true,true,true,true,true,true,true,true,false,false,false,false] rfl rfl (take_ofW HT_.out HW_.out (by kernel_rfl)) (fun _ _ _ h=>h) (Or.inl ⟨by rfl,?_⟩) hHeld ?_ ?_
          rotate_left
          ·rintro w' ⟨s0,s1,s2,s3,s4,s5,s6,s7,s8,s9,s10,s11,s12,s13,s14,s15,s16,s17⟩
           go_simp
           with_reducible rfl
          rotate_left
          ·simp only [Act.put,List.setIfInBounds_toArray,List.set_cons_zero,List.set_cons_succ,i64_w,i32_w]
           rfl
          refine take_ (i:=20) (N:=some 30) (v:=?_) (a':=?_) #[true,true,true,true,true,true,true,true,true,true,true,true,true,true,true,true,true,true,true,true,true,false,false,false] rfl rfl (take_ofW HT_.out HW_.out (by kernel_rfl)) (fun _ _ _ h=>h) (Or.inl ⟨by rfl,?_⟩) hHeld ?_ ?_
          rotate_left
          ·rintro w' ⟨s0,s1,s2,s3,s4,s5,s6,s7,s8,s9,s10,s11,s12,s13,s14,s15,s16,s17⟩
           go_simp
           with_reducible rfl
          rotate_left
          ·simp only [Act.put,List.setIfInBounds_toArray,List.set_cons_zero,List.set_cons_succ,i64_w,i32_w]
           rfl
          refine pure_ (i:=21) (N:=some 31) (v:=?_) (a':=?_) #[true,true,true,true,true,true,true,true,true,true,true,true,true,true,true,true,true,true,true,true,true,true,false,false] rfl rfl (any_of HT_.out (by kernel_rfl)) (fun _ _ _ h=>h) (Or.inl ⟨by rfl,?_⟩) ?_ ?_
          rotate_left
          ·intro w'
           go_simp
           with_reducible rfl
          rotate_left
          ·simp only [Act.put,List.setIfInBounds_toArray,List.set_cons_zero,List.set_cons_succ,i64_w,i32_w]
           rfl
          refine pure_ (i:=22) (N:=some 32) (v:=?_) (a':=?_) #[true,true,true,true,true,true,true,true,true,true,true,true,true,true,true,true,true,true,true,true,true,true,true,false] rfl rfl (any_of HT_.out (by kernel_rfl)) (fun _ _ _ h=>h) (Or.inl ⟨by rfl,?_⟩) ?_ ?_
          rotate_left
          ·intro w'
           go_simp
           with_reducible rfl
          rotate_left
          ·simp only [Act.put,List.setIfInBounds_toArray,List.set_cons_zero,List.set_cons_succ,i64_w,i32_w]
           rfl
          refine pure_ (i:=23) (N:=some 33) (v:=?_) (a':=?_) #[true,true,true,true,true,true,true,true,true,true,true,true,true,true,true,true,true,true,true,true,true,true,true,true] rfl rfl (any_of HT_.out (by kernel_rfl)) (fun _ _ _ h=>h) (Or.inl ⟨by rfl,?_⟩) ?_ ?_
          rotate_left
          ·intro w'
           go_simp
           with_reducible rfl
          rotate_left
          ·simp only [Act.put,List.setIfInBounds_toArray,List.set_cons_zero,List.set_cons_succ,i64_w,i32_w]
           rfl
          refine done_ (done_of HT_.out (by kernel_rfl)) ?_
          try go_wp2
          go_ret
          exact ⟨by first|rfl|(simp [errW_none,errW_some] <;> rfl)|(simp only [← hji7];first|rfl|(simp [errW_none,errW_some] <;> rfl))|(simp [*,errW_none,errW_some] <;> rfl),by repeat (first|(with_reducible first|exact HB.out|apply below_alloc|apply pw_below_drewN|apply below_drew1)|exact HB.out)⟩
         ·rw [if_neg c10] at H
          have c10b0 : decide (((rd_T27 l0 x3_1).f0) ≤ ((rd_T27 l0 (ji7)).f0))=false:=decide_eq_false c10
          clear c10
          have H':=Aside0.mk H
          clear H
          try go_wp2
          have n0_:=Aside0.mk (below_drew1 HB.out)
          clear HB
          have HB:=n0_
          clear n0_
          have p263 : 0 ≤ (x3_1 : Int):=of_decide_eq_true (by first|(with_reducible assumption)|assumption)
          have q263 : x3_1 < (l0.length : Int):=of_decide_eq_true (by first|(with_reducible assumption)|assumption)
          obtain ⟨ad263,A263_3,c263_3,A263_5,c263_5,e263,hx263_0,hx263_1,hx263_2,hx263_3,hx263_4,hx263_5,hl263_3,hi263_3,hl263_5,hi263_5⟩:=at_T27 HR0.out x3_1 p263 q263
          have hw263_5:=hx263_5
          have hw263_4:=hx263_4
          have hw263_3:=hx263_3
          have hw263_2:=hx263_2
          have hw263_1:=hx263_1
          have hw263_0:=hx263_0
          cases e263
          replace hx263_0:=(HB.out.cell (World.block_lt_of_cell? w _ hx263_0)).trans hx263_0
          replace hx263_1:=(HB.out.cell (World.block_lt_of_cell? w _ hx263_1)).trans hx263_1
          replace hx263_2:=(HB.out.cell (World.block_lt_of_cell? w _ hx263_2)).trans hx263_2
          replace hx263_3:=(HB.out.cell (World.block_lt_of_cell? w _ hx263_3)).trans hx263_3
          replace hx263_4:=(HB.out.cell (World.block_lt_of_cell? w _ hx263_4)).trans hx263_4
          replace hx263_5:=(HB.out.cell (World.block_lt_of_cell? w _ hx263_5)).trans hx263_5
          have HR263_3:=Aside0.mk hi263_3
          have HC263_3:=Aside0.mk hl263_3
          clear hi263_3 hl263_3
          have HR263_5:=Aside0.mk hi263_5
          have HC263_5:=Aside0.mk hl263_5
          clear hi263_5 hl263_5
          replace p263:=eq_true p263
          replace q263:=eq_true q263
          have p265 : 0 ≤ ((ji7) : Int):=of_decide_eq_true (by first|(with_reducible assumption)|assumption)
          have q265 : (ji7) < (l0.length : Int):=of_decide_eq_true (by first|(with_reducible assumption)|assumption)
          obtain ⟨ad265,A265_3,c265_3,A265_5,c265_5,e265,hx265_0,hx265_1,hx265_2,hx265_3,hx265_4,hx265_5,hl265_3,hi265_3,hl265_5,hi265_5⟩:=at_T27 HR0.out (ji7) p265 q265
          have hw265_5:=hx265_5
          have hw265_4:=hx265_4
          have hw265_3:=hx265_3
          have hw265_2:=hx265_2
          have hw265_1:=hx265_1
          have hw265_0:=hx265_0
          obtain rfl : ad263=ad265:=(by injection e265)
          replace hx265_0:=(HB.out.cell (World.block_lt_of_cell? w _ hx265_0)).trans hx265_0
          replace hx265_1:=(HB.out.cell (World.block_lt_of_cell? w _ hx265_1)).trans hx265_1
          replace hx265_2:=(HB.out.cell (World.block_lt_of_cell? w _ hx265_2)).trans hx265_2
          replace hx265_3:=(HB.out.cell (World.block_lt_of_cell? w _ hx265_3)).trans hx265_3
          replace hx265_4:=(HB.out.cell (World.block_lt_of_cell? w _ hx265_4)).trans hx265_4
          replace hx265_5:=(HB.out.cell (World.block_lt_of_cell? w _ hx265_5)).trans hx265_5
          have HR265_3:=Aside0.mk hi265_3
          have HC265_3:=Aside0.mk hl265_3
          clear hi265_3 hl265_3
          have HR265_5:=Aside0.mk hi265_5
          have HC265_5:=Aside0.mk hl265_5
          clear hi265_5 hl265_5
          replace p265:=eq_true p265
          replace q265:=eq_true q265
          have p266 : 0 ≤ (x3_1 : Int):=of_decide_eq_true (by first|(with_reducible assumption)|assumption)
          have q266 : x3_1 < (l0.length : Int):=of_decide_eq_true (by first|(with_reducible assumption)|assumption)
          obtain ⟨ad266,A266_3,c266_3,A266_5,c266_5,e266,hx266_0,hx266_1,hx266_2,hx266_3,hx266_4,hx266_5,hl266_3,hi266_3,hl266_5,hi266_5⟩:=at_T27 HR0.out x3_1 p266 q266
          have hw266_5:=hx266_5
          have hw266_4:=hx266_4
          have hw266_3:=hx266_3
          have hw266_2:=hx266_2
          have hw266_1:=hx266_1
          have hw266_0:=hx266_0
          obtain rfl : ad263=ad266:=(by injection e266)
          replace hx266_0:=(HB.out.cell (World.block_lt_of_cell? w _ hx266_0)).trans hx266_0
          replace hx266_1:=(HB.out.cell (World.block_lt_of_cell? w _ hx266_1)).trans hx266_1
          replace hx266_2:=(HB.out.cell (World.block_lt_of_cell? w _ hx266_2)).trans hx266_2
          replace hx266_3:=(HB.out.cell (World.block_lt_of_cell? w _ hx266_3)).trans hx266_3
          replace hx266_4:=(HB.out.cell (World.block_lt_of_cell? w _ hx266_4)).trans hx266_4
          replace hx266_5:=(HB.out.cell (World.block_lt_of_cell? w _ hx266_5)).trans hx266_5
          have HR266_3:=Aside0.mk hi266_3
          have HC266_3:=Aside0.mk hl266_3
          clear hi266_3 hl266_3
          have HR266_5:=Aside0.mk hi266_5
          have HC266_5:=Aside0.mk hl266_5
          clear hi266_5 hl266_5
          replace p266:=eq_true p266
          replace q266:=eq_true q266
          refine start_ (n:=24) (S:=fun w'=>w'.cell? (ad263.add ((x3_1).toNat * 6))=some (.int .i64 ((rd_T27 l0 x3_1).f0))∧w'.cell? ⟨(ad263.add ((x3_1).toNat * 6)).block,(ad263.add ((x3_1).toNat * 6)).off + 1,none⟩ = some (.int .i64 ((rd_T27 l0 x3_1).f1))∧w'.cell? ⟨(ad263.add ((x3_1).toNat * 6)).block,(ad263.add ((x3_1).toNat * 6)).off + 2,none⟩ = some (.bool ((rd_T27 l0 x3_1).f2))∧w'.cell? ⟨(ad263.add ((x3_1).toNat * 6)).block,(ad263.add ((x3_1).toNat * 6)).off + 3,none⟩ = some (.slice A263_3 ((rd_T27 l0 x3_1).f3).length c263_3)∧w'.cell? ⟨(ad263.add ((x3_1).toNat * 6)).block,(ad263.add ((x3_1).toNat * 6)).off + 4,none⟩ = some (.bool ((rd_T27 l0 x3_1).f4))∧w'.cell? ⟨(ad263.add ((x3_1).toNat * 6)).block,(ad263.add ((x3_1).toNat * 6)).off + 5,none⟩ = some (.slice A263_5 ((rd_T27 l0 x3_1).f5).length c263_5)∧w'.cell? (ad263.add (((ji7)).toNat * 6))=some (.int .i64 ((rd_T27 l0 (ji7)).f0))∧w'.cell? ⟨(ad263.add (((ji7)).toNat * 6)).block,(ad263.add (((ji7)).toNat * 6)).off + 1,none⟩ = some (.int .i64 ((rd_T27 l0 (ji7)).f1))∧w'.cell? ⟨(ad263.add (((ji7)).toNat * 6)).block,(ad263.add (((ji7)).toNat * 6)).off + 2,none⟩ = some (.bool ((rd_T27 l0 (ji7)).f2))∧w'.cell? ⟨(ad263.add (((ji7)).toNat * 6)).block,(ad263.add (((ji7)).toNat * 6)).off + 3,none⟩ = some (.slice A265_3 ((rd_T27 l0 (ji7)).f3).length c265_3)∧w'.cell? ⟨(ad263.add (((ji7)).toNat * 6)).block,(ad263.add (((ji7)).toNat * 6)).off + 4,none⟩ = some (.bool ((rd_T27 l0 (ji7)).f4))∧w'.cell? ⟨(ad263.add (((ji7)).toNat * 6)).block,(ad263.add (((ji7)).toNat * 6)).off + 5,none⟩ = some (.slice A265_5 ((rd_T27 l0 (ji7)).f5).length c265_5)∧w'.cell? (ad263.add ((x3_1).toNat * 6))=some (.int .i64 ((rd_T27 l0 x3_1).f0))∧w'.cell? ⟨(ad263.add ((x3_1).toNat * 6)).block,(ad263.add ((x3_1).toNat * 6)).off + 1,none⟩ = some (.int .i64 ((rd_T27 l0 x3_1).f1))∧w'.cell? ⟨(ad263.add ((x3_1).toNat * 6)).block,(ad263.add ((x3_1).toNat * 6)).off + 2,none⟩ = some (.bool ((rd_T27 l0 x3_1).f2))∧w'.cell? ⟨(ad263.add ((x3_1).toNat * 6)).block,(ad263.add ((x3_1).toNat * 6)).off + 3,none⟩ = some (.slice A266_3 ((rd_T27 l0 x3_1).f3).length c266_3)∧w'.cell? ⟨(ad263.add ((x3_1).toNat * 6)).block,(ad263.add ((x3_1).toNat * 6)).off + 4,none⟩ = some (.bool ((rd_T27 l0 x3_1).f4))∧w'.cell? ⟨(ad263.add ((x3_1).toNat * 6)).block,(ad263.add ((x3_1).toNat * 6)).off + 5,none⟩ = some (.slice A266_5 ((rd_T27 l0 x3_1).f5).length c266_5)) (ds:=[]) #[false,false,false,false,false,false,false,false,false,false,false,false,false,false,false,false,false,false,false,false,false,false,false,false] (by kernel_rfl) rfl rfl ⟨((HB.out.cell (World.block_lt_of_cell? w _ hw263_0)).trans hw263_0),((HB.out.cell (World.block_lt_of_cell? w _ hw263_1)).trans hw263_1),((HB.out.cell (World.block_lt_of_cell? w _ hw263_2)).trans hw263_2),((HB.out.cell (World.block_lt_of_cell? w _ hw263_3)).trans hw263_3),((HB.out.cell (World.block_lt_of_cell? w _ hw263_4)).trans hw263_4),((HB.out.cell (World.block_lt_of_cell? w _ hw263_5)).trans hw263_5),((HB.out.cell (World.block_lt_of_cell? w _ hw265_0)).trans hw265_0),((HB.out.cell (World.block_lt_of_cell? w _ hw265_1)).trans hw265_1),((HB.out.cell (World.block_lt_of_cell? w _ hw265_2)).trans hw265_2),((HB.out.cell (World.block_lt_of_cell? w _ hw265_3)).trans hw265_3),((HB.out.cell (World.block_lt_of_cell? w _ hw265_4)).trans hw265_4),((HB.out.cell (World.block_lt_of_cell? w _ hw265_5)).trans hw265_5),((HB.out.cell (World.block_lt_of_cell? w _ hw266_0)).trans hw266_0),((HB.out.cell (World.block_lt_of_cell? w _ hw266_1)).trans hw266_1),((HB.out.cell (World.block_lt_of_cell? w _ hw266_2)).trans hw266_2),((HB.out.cell (World.block_lt_of_cell? w _ hw266_3)).trans hw266_3),((HB.out.cell (World.block_lt_of_cell? w _ hw266_4)).trans hw266_4),((HB.out.cell (World.block_lt_of_cell? w _ hw266_5)).trans hw266_5)⟩ (fun hHeld=>?_);refine with_tabW spec_l5Records.tab4 spec_l5Records.bits4 (fun HT_ HW_=>?_)
          generalize wr.drew=w13 at HB HR263_3 HR263_5 HR265_3 HR265_5 HR266_3 HR266_5 hx263_0 hx263_1 hx263_2 hx263_3 hx263_4 hx263_5 hx265_0 hx265_1 hx265_2 hx265_3 hx265_4 hx265_5 hx266_0 hx266_1 hx266_2 hx266_3 hx266_4 hx266_5 hHeld ⊢
          refine pure_ (i:=0) (N:=some 10) (v:=?_) (a':=?_) #[true,false,false,false,false,false,false,false,false,false,false,false,false,false,false,false,false,false,false,false,false,false,false,false] rfl rfl (any_of HT_.out (by kernel_rfl)) (fun _ _ _ h=>h) (Or.inl ⟨by rfl,?_⟩) ?_ ?_
          rotate_left
          ·intro w'
           go_simp
           with_reducible rfl
          rotate_left
          ·simp only [Act.put,List.setIfInBounds_toArray,List.set_cons_zero,List.set_cons_succ,i64_w,i32_w]
           rfl
          refine pure_ (i:=1) (N:=some 11) (v:=?_) (a':=?_) #[true,true,false,false,false,false,false,false,false,false,false,false,false,false,false,false,false,false,false,false,false,false,false,false] rfl rfl (any_of HT_.out (by kernel_rfl)) (fun _ _ _ h=>h) (Or.inl ⟨by rfl,?_⟩) ?_ ?_
          rotate_left
          ·intro w'
           go_simp
           with_reducible rfl
          rotate_left
          ·simp only [Act.put,List.setIfInBounds_toArray,List.set_cons_zero,List.set_cons_succ,i64_w,i32_w]
           rfl
          refine pure_ (i:=2) (N:=some 12) (v:=?_) (a':=?_) #[true,true,true,false,false,false,false,false,false,false,false,false,false,false,false,false,false,false,false,false,false,false,false,false] rfl rfl (any_of HT_.out (by kernel_rfl)) (fun _ _ _ h=>h) (Or.inl ⟨by rfl,?_⟩) ?_ ?_
          rotate_left
          ·intro w'
           go_simp
           with_reducible rfl
          rotate_left
          ·simp only [Act.put,List.setIfInBounds_toArray,List.set_cons_zero,List.set_cons_succ,i64_w,i32_w]
           rfl
          refine take_ (i:=3) (N:=some 13) (v:=?_) (a':=?_) #[true,true,true,true,false,false,false,false,false,false,false,false,false,false,false,false,false,false,false,false,false,false,false,false] rfl rfl (take_ofW HT_.out HW_.out (by kernel_rfl)) (fun _ _ _ h=>h) (Or.inl ⟨by rfl,?_⟩) hHeld ?_ ?_
          rotate_left
          ·rintro w' ⟨s0,s1,s2,s3,s4,s5,s6,s7,s8,s9,s10,s11,s12,s13,s14,s15,s16,s17⟩
           go_simp
           with_reducible rfl
          rotate_left
          ·simp only [Act.put,List.setIfInBounds_toArray,List.set_cons_zero,List.set_cons_succ,i64_w,i32_w]
           rfl
          refine one_ (i:=4) (N:=some 14) #[true,true,true,true,true,false,false,false,false,false,false,false,false,false,false,false,false,false,false,false,false,false,false,false] rfl rfl (one_of HT_.out (by kernel_rfl)) (by decide) (fun K hK=>?_)
          refine goes_ Try.func16 (by kernel_rfl) rfl #[.agg #[.int .i64 ((rd_T27 l0 x3_1).f0),.int .i64 ((rd_T27 l0 x3_1).f1),.bool ((rd_T27 l0 x3_1).f2),.slice A263_3 ((rd_T27 l0 x3_1).f3).length c263_3,.bool ((rd_T27 l0 x3_1).f4),.slice A263_5 ((rd_T27 l0 x3_1).f5).length c263_5]] (by rfl) rfl rfl (by (try simp only [List.map_toArray,List.map_cons,List.map_nil]);first|done|rfl|(simp only [List.length_drop,List.length_take];rfl)) ?_
          with_reducible refine (spec_RecordValid.calls k1 ((rd_T27 l0 x3_1).f0) ((rd_T27 l0 x3_1).f1) ((rd_T27 l0 x3_1).f2) _ _ ((rd_T27 l0 x3_1).f3) ((rd_T27 l0 x3_1).f4) _ _ ((rd_T27 l0 x3_1).f5) true _ ?side1 ?side2 ?side3 ?side4 A4.out).mono ?_
          (case side1=>repeat (first|exact (Kd.C_below HR263_3.out HB.out)|(with_reducible refine Kd.C_alloc ?_ _)|(with_reducible refine Kd.C_drewN ?_ _)|(with_reducible refine Kd.C_drew ?_)))
          (case side2=>exact HC263_3.out)
          (case side3=>repeat (first|exact (Kd.C_below HR263_5.out HB.out)|(with_reducible refine Kd.C_alloc ?_ _)|(with_reducible refine Kd.C_drewN ?_ _)|(with_reducible refine Kd.C_drew ?_)))
          (case side4=>exact HC263_5.out)
          rintro e w14 ⟨rfl,hb⟩
          refine ⟨_,rfl,?_⟩
          have n0_:=Aside0.mk (below_step (by repeat (first|(with_reducible first|exact HB.out|apply below_alloc|apply pw_below_drewN|apply below_drew1)|exact HB.out)) hb)
          clear HB
          have HB:=n0_
          clear n0_
          (try clear hb)
          (try clear hb2)
          (try clear hk)
          (try clear hi)
          refine hK.out _ _ ⟨((HB.out.cell (World.block_lt_of_cell? w _ hw263_0)).trans hw263_0),((HB.out.cell (World.block_lt_of_cell? w _ hw263_1)).trans hw263_1),((HB.out.cell (World.block_lt_of_cell? w _ hw263_2)).trans hw263_2),((HB.out.cell (World.block_lt_of_cell? w _ hw263_3)).trans hw263_3),((HB.out.cell (World.block_lt_of_cell? w _ hw263_4)).trans hw263_4),((HB.out.cell (World.block_lt_of_cell? w _ hw263_5)).trans hw263_5),((HB.out.cell (World.block_lt_of_cell? w _ hw265_0)).trans hw265_0),((HB.out.cell (World.block_lt_of_cell? w _ hw265_1)).trans hw265_1),((HB.out.cell (World.block_lt_of_cell? w _ hw265_2)).trans hw265_2),((HB.out.cell (World.block_lt_of_cell? w _ hw265_3)).trans hw265_3),((HB.out.cell (World.block_lt_of_cell? w _ hw265_4)).trans hw265_4),((HB.out.cell (World.block_lt_of_cell? w _ hw265_5)).trans hw265_5),((HB.out.cell (World.block_lt_of_cell? w _ hw266_0)).trans hw266_0),((HB.out.cell (World.block_lt_of_cell? w _ hw266_1)).trans hw266_1),((HB.out.cell (World.block_lt_of_cell? w _ hw266_2)).trans hw266_2),((HB.out.cell (World.block_lt_of_cell? w _ hw266_3)).trans hw266_3),((HB.out.cell (World.block_lt_of_cell? w _ hw266_4)).trans hw266_4),((HB.out.cell (World.block_lt_of_cell? w _ hw266_5)).trans hw266_5)⟩ (fun hHeld=>?_)
          clear hK K
          refine norm_ (a':=?_) ?_ ?_
          rotate_left
          ·show Act.put _ (some 14) _=_
           simp only [Act.put,List.setIfInBounds_toArray,List.set_cons_zero,List.set_cons_succ,i64_w,i32_w]
           rfl
          refine pure_ (i:=5) (N:=some 15) (v:=?_) (a':=?_) #[true,true,true,true,true,true,false,false,false,false,false,false,false,false,false,false,false,false,false,false,false,false,false,false] rfl rfl (any_of HT_.out (by kernel_rfl)) (fun _ _ _ h=>h) (Or.inl ⟨by rfl,?_⟩) ?_ ?_
          rotate_left
          ·intro w'
           go_simp
           with_reducible rfl
          rotate_left
          ·simp only [Act.put,List.setIfInBounds_toArray,List.set_cons_zero,List.set_cons_succ,i64_w,i32_w]
           rfl
          refine pure_ (i:=6) (N:=some 16) (v:=?_) (a':=?_) #[true,true,true,true,true,true,true,false,false,false,false,false,false,false,false,false,false,false,false,false,false,false,false,false] rfl rfl (any_of HT_.out (by kernel_rfl)) (fun _ _ _ h=>h) (Or.inl ⟨by rfl,?_⟩) ?_ ?_
          rotate_left
          ·intro w'
           go_simp
           with_reducible rfl
          rotate_left
          ·simp only [Act.put,List.setIfInBounds_toArray,List.set_cons_zero,List.set_cons_succ,i64_w,i32_w]
           rfl
          refine pure_ (i:=7) (N:=some 17) (v:=?_) (a':=?_) #[true,true,true,true,true,true,true,true,false,false,false,false,false,false,false,false,false,false,false,false,false,false,false,false] rfl rfl (any_of HT_.out (by kernel_rfl)) (fun _ _ _ h=>h) (Or.inl ⟨by rfl,?_⟩) ?_ ?_
          rotate_left
          ·intro w'
           go_simp
           with_reducible rfl
          rotate_left
          ·simp only [Act.put,List.setIfInBounds_toArray,List.set_cons_zero,List.set_cons_succ,i64_w,i32_w]
           rfl
          refine pure_ (i:=8) (N:=some 18) (v:=?_) (a':=?_) #[true,true,true,true,true,true,true,true,true,false,false,false,false,false,false,false,false,false,false,false,false,false,false,false] rfl rfl (any_of HT_.out (by kernel_rfl)) (fun _ _ _ h=>h) (Or.inl ⟨by rfl,?_⟩) ?_ ?_
          rotate_left
          ·intro w'
           go_simp
           with_reducible rfl
          rotate_left
          ·simp only [Act.put,List.setIfInBounds_toArray,List.set_cons_zero,List.set_cons_succ,i64_w,i32_w]
           rfl
          refine pure_ (i:=9) (N:=some 19) (v:=?_) (a':=?_) #[true,true,true,true,true,true,true,true,true,true,false,false,false,false,false,false,false,false,false,false,false,false,false,false] rfl rfl (any_of HT_.out (by kernel_rfl)) (fun _ _ _ h=>h) (Or.inl ⟨by rfl,?_⟩) ?_ ?_
          rotate_left
          ·intro w'
           go_simp
           with_reducible rfl
          rotate_left
          ·simp only [Act.put,List.setIfInBounds_toArray,List.set_cons_zero,List.set_cons_succ,i64_w,i32_w]
           rfl
          refine pure_ (i:=10) (N:=some 20) (v:=?_) (a':=?_) #[true,true,true,true,true,true,true,true,true,true,true,false,false,false,false,false,false,false,false,false,false,false,false,false] rfl rfl (any_of HT_.out (by kernel_rfl)) (fun _ _ _ h=>h) (Or.inl ⟨by rfl,?_⟩) ?_ ?_
          rotate_left
          ·intro w'
           go_simp
           with_reducible rfl
          rotate_left
          ·simp only [Act.put,List.setIfInBounds_toArray,List.set_cons_zero,List.set_cons_succ,i64_w,i32_w]
           rfl
          refine pure_ (i:=11) (N:=some 21) (v:=?_) (a':=?_) #[true,true,true,true,true,true,true,true,true,true,true,true,false,false,false,false,false,false,false,false,false,false,false,false] rfl rfl (any_of HT_.out (by kernel_rfl)) (fun _ _ _ h=>h) (Or.inl ⟨by rfl,?_⟩) ?_ ?_
          rotate_left
          ·intro w'
           go_simp
           with_reducible rfl
          rotate_left
          ·simp only [Act.put,List.setIfInBounds_toArray,List.set_cons_zero,List.set_cons_succ,i64_w,i32_w]
           rfl
          refine pure_ (i:=12) (N:=some 22) (v:=?_) (a':=?_) #[true,true,true,true,true,true,true,true,true,true,true,true,true,false,false,false,false,false,false,false,false,false,false,false] rfl rfl (any_of HT_.out (by kernel_rfl)) (fun _ _ _ h=>h) (Or.inl ⟨by rfl,?_⟩) ?_ ?_
          rotate_left
          ·intro w'
           go_simp
           with_reducible rfl
          rotate_left
          ·simp only [Act.put,List.setIfInBounds_toArray,List.set_cons_zero,List.set_cons_succ,i64_w,i32_w]
           rfl
          refine pure_ (i:=13) (N:=some 23) (v:=?_) (a':=?_) #[true,true,true,true,true,true,true,true,true,true,true,true,true,true,false,false,false,false,false,false,false,false,false,false] rfl rfl (any_of HT_.out (by kernel_rfl)) (fun _ _ _ h=>h) (Or.inl ⟨by rfl,?_⟩) ?_ ?_
          rotate_left
          ·intro w'
           go_simp
           with_reducible rfl
          rotate_left
          ·simp only [Act.put,List.setIfInBounds_toArray,List.set_cons_zero,List.set_cons_succ,i64_w,i32_w]
           rfl
          refine pure_ (i:=14) (N:=some 24) (v:=?_) (a':=?_) #[true,true,true,true,true,true,true,true,true,true,true,true,true,true,true,false,false,false,false,false,false,false,false,false] rfl rfl (any_of HT_.out (by kernel_rfl)) (fun _ _ _ h=>h) (Or.inl ⟨by rfl,?_⟩) ?_ ?_
          rotate_left
          ·intro w'
           go_simp
           with_reducible rfl
          rotate_left
          ·simp only [Act.put,List.setIfInBounds_toArray,List.set_cons_zero,List.set_cons_succ,i64_w,i32_w]
           rfl
          refine pure_ (i:=16) (N:=some 26) (v:=?_) (a':=?_) #[true,true,true,true,true,true,true,true,true,true,true,true,true,true,true,false,true,false,false,false,false,false,false,false] rfl rfl (any_of HT_.out (by kernel_rfl)) (fun _ _ _ h=>h) (Or.inl ⟨by rfl,?_⟩) ?_ ?_
          rotate_left
          ·intro w'
           go_simp
           with_reducible rfl
          rotate_left
          ·simp only [Act.put,List.setIfInBounds_toArray,List.set_cons_zero,List.set_cons_succ,i64_w,i32_w]
           rfl
          refine pure_ (i:=17) (N:=some 27) (v:=?_) (a':=?_) #[true,true,true,true,true,true,true,true,true,true,true,true,true,true,true,false,true,true,false,false,false,false,false,false] rfl rfl (any_of HT_.out (by kernel_rfl)) (fun _ _ _ h=>h) (Or.inl ⟨by rfl,?_⟩) ?_ ?_
          rotate_left
          ·intro w'
           go_simp
           with_reducible rfl
          rotate_left
          ·simp only [Act.put,List.setIfInBounds_toArray,List.set_cons_zero,List.set_cons_succ,i64_w,i32_w]
           rfl
          refine pure_ (i:=18) (N:=some 28) (v:=?_) (a':=?_) #[true,true,true,true,true,true,true,true,true,true,true,true,true,true,true,false,true,true,true,false,false,false,false,false] rfl rfl (any_of HT_.out (by kernel_rfl)) (fun _ _ _ h=>h) (Or.inl ⟨by rfl,?_⟩) ?_ ?_
          rotate_left
          ·intro w'
           go_simp
           with_reducible rfl
          rotate_left
          ·simp only [Act.put,List.setIfInBounds_toArray,List.set_cons_zero,List.set_cons_succ,i64_w,i32_w]
           rfl
          refine pure_ (i:=19) (N:=some 29) (v:=?_) (a':=?_) #[true,true,true,true,true,true,true,true,true,true,true,true,true,true,true,false,true,true,true,true,false,false,false,false] rfl rfl (any_of HT_.out (by kernel_rfl)) (fun _ _ _ h=>h) (Or.inl ⟨by rfl,?_⟩) ?_ ?_
          rotate_left
          ·intro w'
           go_simp
           with_reducible rfl
          rotate_left
          ·simp only [Act.put,List.setIfInBounds_toArray,List.set_cons_zero,List.set_cons_succ,i64_w,i32_w]
           rfl
          refine take_ (i:=15) (N:=some 25) (v:=?_) (a':=?_) #[true,true,true,true,true,true,true,true,true,true,true,true,true,true,true,true,true,true,true,true,false,false,false,false] rfl rfl (take_ofW HT_.out HW_.out (by kernel_rfl)) (fun _ _ _ h=>h) (Or.inl ⟨by rfl,?_⟩) hHeld ?_ ?_
          rotate_left
          ·rintro w' ⟨s0,s1,s2,s3,s4,s5,s6,s7,s8,s9,s10,s11,s12,s13,s14,s15,s16,s17⟩
           go_simp
           with_reducible rfl
          rotate_left
          ·simp only [Act.put,List.setIfInBounds_toArray,List.set_cons_zero,List.set_cons_succ,i64_w,i32_w]
           rfl
          refine take_ (i:=20) (N:=some 30) (v:=?_) (a':=?_) #[true,true,true,true,true,true,true,true,true,true,true,true,true,true,true,true,true,true,true,true,true,false,false,false] rfl rfl (take_ofW HT_.out HW_.out (by kernel_rfl)) (fun _ _ _ h=>h) (Or.inl ⟨by rfl,?_⟩) hHeld ?_ ?_
          rotate_left
          ·rintro w' ⟨s0,s1,s2,s3,s4,s5,s6,s7,s8,s9,s10,s11,s12,s13,s14,s15,s16,s17⟩
           go_simp
           with_reducible rfl
          rotate_left
          ·simp only [Act.put,List.setIfInBounds_toArray,List.set_cons_zero,List.set_cons_succ,i64_w,i32_w]
           rfl
          refine pure_ (i:=21) (N:=some 31) (v:=?_) (a':=?_) #[true,true,true,true,true,true,true,true,true,true,true,true,true,true,true,true,true,true,true,true,true,true,false,false] rfl rfl (any_of HT_.out (by kernel_rfl)) (fun _ _ _ h=>h) (Or.inl ⟨by rfl,?_⟩) ?_ ?_
          rotate_left
          ·intro w'
           go_simp
           with_reducible rfl
          rotate_left
          ·simp only [Act.put,List.setIfInBounds_toArray,List.set_cons_zero,List.set_cons_succ,i64_w,i32_w]
           rfl
          refine pure_ (i:=22) (N:=some 32) (v:=?_) (a':=?_) #[true,true,true,true,true,true,true,true,true,true,true,true,true,true,true,true,true,true,true,true,true,true,true,false] rfl rfl (any_of HT_.out (by kernel_rfl)) (fun _ _ _ h=>h) (Or.inl ⟨by rfl,?_⟩) ?_ ?_
          rotate_left
          ·intro w'
           go_simp
           with_reducible rfl
          rotate_left
          ·simp only [Act.put,List.setIfInBounds_toArray,List.set_cons_zero,List.set_cons_succ,i64_w,i32_w]
           rfl
          refine pure_ (i:=23) (N:=some 33) (v:=?_) (a':=?_) #[true,true,true,true,true,true,true,true,true,true,true,true,true,true,true,true,true,true,true,true,true,true,true,true] rfl rfl (any_of HT_.out (by kernel_rfl)) (fun _ _ _ h=>h) (Or.inl ⟨by rfl,?_⟩) ?_ ?_
          rotate_left
          ·intro w'
           go_simp
           with_reducible rfl
          rotate_left
          ·simp only [Act.put,List.setIfInBounds_toArray,List.set_cons_zero,List.set_cons_succ,i64_w,i32_w]
           rfl
          refine done_ (done_of HT_.out (by kernel_rfl)) ?_
          try go_wp2
          go_roundg k1
          case measure=>have:=HK1.out;omega
          case rel=>exact ⟨(wrap64 (x3_1 + 1)),(by first|rfl|(simp;done)|(simp [*];done)),H',⟨by have:=HK1.out;omega⟩,⟨by repeat (first|(with_reducible first|exact HB.out|apply below_alloc|apply pw_below_drewN|apply below_drew1)|exact HB.out)⟩⟩
        ·rw [if_neg c9] at H
         exact absurd H (by simp)
       ·rw [if_neg c8] at H
        exact absurd H (by simp)
      ·rw [if_neg c6] at H
       have c6b0 : decide (0 < x3_1)=false:=decide_eq_false c6
       clear c6
       have H':=Aside0.mk H
       clear H
       try go_wp2
       have n0_:=Aside0.mk (below_drew1 HB.out)
       clear HB
       have HB:=n0_
       clear n0_
       have p263 : 0 ≤ (x3_1 : Int):=of_decide_eq_true (by first|(with_reducible assumption)|assumption)
       have q263 : x3_1 < (l0.length : Int):=of_decide_eq_true (by first|(with_reducible assumption)|assumption)
       obtain ⟨ad263,A263_3,c263_3,A263_5,c263_5,e263,hx263_0,hx263_1,hx263_2,hx263_3,hx263_4,hx263_5,hl263_3,hi263_3,hl263_5,hi263_5⟩:=at_T27 HR0.out x3_1 p263 q263
       have hw263_5:=hx263_5
       have hw263_4:=hx263_4
       have hw263_3:=hx263_3
       have hw263_2:=hx263_2
       have hw263_1:=hx263_1
       have hw263_0:=hx263_0
       cases e263
       replace hx263_0:=(HB.out.cell (World.block_lt_of_cell? w _ hx263_0)).trans hx263_0
       replace hx263_1:=(HB.out.cell (World.block_lt_of_cell? w _ hx263_1)).trans hx263_1
       replace hx263_2:=(HB.out.cell (World.block_lt_of_cell? w _ hx263_2)).trans hx263_2
       replace hx263_3:=(HB.out.cell (World.block_lt_of_cell? w _ hx263_3)).trans hx263_3
       replace hx263_4:=(HB.out.cell (World.block_lt_of_cell? w _ hx263_4)).trans hx263_4
       replace hx263_5:=(HB.out.cell (World.block_lt_of_cell? w _ hx263_5)).trans hx263_5
       have HR263_3:=Aside0.mk hi263_3
       have HC263_3:=Aside0.mk hl263_3
       clear hi263_3 hl263_3
       have HR263_5:=Aside0.mk hi263_5
       have HC263_5:=Aside0.mk hl263_5
       clear hi263_5 hl263_5
       replace p263:=eq_true p263
       replace q263:=eq_true q263
       refine start_ (n:=24) (S:=fun w'=>w'.cell? (ad263.add ((x3_1).toNat * 6))=some (.int .i64 ((rd_T27 l0 x3_1).f0))∧w'.cell? ⟨(ad263.add ((x3_1).toNat * 6)).block,(ad263.add ((x3_1).toNat * 6)).off + 1,none⟩ = some (.int .i64 ((rd_T27 l0 x3_1).f1))∧w'.cell? ⟨(ad263.add ((x3_1).toNat * 6)).block,(ad263.add ((x3_1).toNat * 6)).off + 2,none⟩ = some (.bool ((rd_T27 l0 x3_1).f2))∧w'.cell? ⟨(ad263.add ((x3_1).toNat * 6)).block,(ad263.add ((x3_1).toNat * 6)).off + 3,none⟩ = some (.slice A263_3 ((rd_T27 l0 x3_1).f3).length c263_3)∧w'.cell? ⟨(ad263.add ((x3_1).toNat * 6)).block,(ad263.add ((x3_1).toNat * 6)).off + 4,none⟩ = some (.bool ((rd_T27 l0 x3_1).f4))∧w'.cell? ⟨(ad263.add ((x3_1).toNat * 6)).block,(ad263.add ((x3_1).toNat * 6)).off + 5,none⟩ = some (.slice A263_5 ((rd_T27 l0 x3_1).f5).length c263_5)) (ds:=[]) #[false,false,false,false,false,false,false,false,false,false,false,false,false,false,false,false,false,false,false,false,false,false,false,false] (by kernel_rfl) rfl rfl ⟨((HB.out.cell (World.block_lt_of_cell? w _ hw263_0)).trans hw263_0),((HB.out.cell (World.block_lt_of_cell? w _ hw263_1)).trans hw263_1),((HB.out.cell (World.block_lt_of_cell? w _ hw263_2)).trans hw263_2),((HB.out.cell (World.block_lt_of_cell? w _ hw263_3)).trans hw263_3),((HB.out.cell (World.block_lt_of_cell? w _ hw263_4)).trans hw263_4),((HB.out.cell (World.block_lt_of_cell? w _ hw263_5)).trans hw263_5)⟩ (fun hHeld=>?_);refine with_tabW spec_l5Records.tab4 spec_l5Records.bits4 (fun HT_ HW_=>?_)
       generalize wr.drew=w15 at HB HR263_3 HR263_5 hx263_0 hx263_1 hx263_2 hx263_3 hx263_4 hx263_5 hHeld ⊢
       refine pure_ (i:=0) (N:=some 10) (v:=?_) (a':=?_) #[true,false,false,false,false,false,false,false,false,false,false,false,false,false,false,false,false,false,false,false,false,false,false,false] rfl rfl (any_of HT_.out (by kernel_rfl)) (fun _ _ _ h=>h) (Or.inl ⟨by rfl,?_⟩) ?_ ?_
       rotate_left
       ·intro w'
        go_simp
        with_reducible rfl
       rotate_left
       ·simp only [Act.put,List.setIfInBounds_toArray,List.set_cons_zero,List.set_cons_succ,i64_w,i32_w]
        rfl
       refine pure_ (i:=1) (N:=some 11) (v:=?_) (a':=?_) #[true,true,false,false,false,false,false,false,false,false,false,false,false,false,false,false,false,false,false,false,false,false,false,false] rfl rfl (any_of HT_.out (by kernel_rfl)) (fun _ _ _ h=>h) (Or.inl ⟨by rfl,?_⟩) ?_ ?_
       rotate_left
       ·intro w'
        go_simp
        with_reducible rfl
       rotate_left
       ·simp only [Act.put,List.setIfInBounds_toArray,List.set_cons_zero,List.set_cons_succ,i64_w,i32_w]
        rfl
       refine pure_ (i:=2) (N:=some 12) (v:=?_) (a':=?_) #[true,true,true,false,false,false,false,false,false,false,false,false,false,false,false,false,false,false,false,false,false,false,false,false] rfl rfl (any_of HT_.out (by kernel_rfl)) (fun _ _ _ h=>h) (Or.inl ⟨by rfl,?_⟩) ?_ ?_
       rotate_left
       ·intro w'
        go_simp
        with_reducible rfl
       rotate_left
       ·simp only [Act.put,List.setIfInBounds_toArray,List.set_cons_zero,List.set_cons_succ,i64_w,i32_w]
        rfl
       refine take_ (i:=3) (N:=some 13) (v:=?_) (a':=?_) #[true,true,true,true,false,false,false,false,false,false,false,false,false,false,false,false,false,false,false,false,false,false,false,false] rfl rfl (take_ofW HT_.out HW_.out (by kernel_rfl)) (fun _ _ _ h=>h) (Or.inl ⟨by rfl,?_⟩) hHeld ?_ ?_
       rotate_left
       ·rintro w' ⟨s0,s1,s2,s3,s4,s5⟩
        go_simp
        with_reducible rfl
       rotate_left
       ·simp only [Act.put,List.setIfInBounds_toArray,List.set_cons_zero,List.set_cons_succ,i64_w,i32_w]
        rfl
       refine one_ (i:=4) (N:=some 14) #[true,true,true,true,true,false,false,false,false,false,false,false,false,false,false,false,false,false,false,false,false,false,false,false] rfl rfl (one_of HT_.out (by kernel_rfl)) (by decide) (fun K hK=>?_)
       refine goes_ Try.func16 (by kernel_rfl) rfl #[.agg #[.int .i64 ((rd_T27 l0 x3_1).f0),.int .i64 ((rd_T27 l0 x3_1).f1),.bool ((rd_T27 l0 x3_1).f2),.slice A263_3 ((rd_T27 l0 x3_1).f3).length c263_3,.bool ((rd_T27 l0 x3_1).f4),.slice A263_5 ((rd_T27 l0 x3_1).f5).length c263_5]] (by rfl) rfl rfl (by (try simp only [List.map_toArray,List.map_cons,List.map_nil]);first|done|rfl|(simp only [List.length_drop,List.length_take];rfl)) ?_
       with_reducible refine (spec_RecordValid.calls k1 ((rd_T27 l0 x3_1).f0) ((rd_T27 l0 x3_1).f1) ((rd_T27 l0 x3_1).f2) _ _ ((rd_T27 l0 x3_1).f3) ((rd_T27 l0 x3_1).f4) _ _ ((rd_T27 l0 x3_1).f5) true _ ?side1 ?side2 ?side3 ?side4 A4.out).mono ?_
       (case side1=>repeat (first|exact (Kd.C_below HR263_3.out HB.out)|(with_reducible refine Kd.C_alloc ?_ _)|(with_reducible refine Kd.C_drewN ?_ _)|(with_reducible refine Kd.C_drew ?_)))
       (case side2=>exact HC263_3.out)
       (case side3=>repeat (first|exact (Kd.C_below HR263_5.out HB.out)|(with_reducible refine Kd.C_alloc ?_ _)|(with_reducible refine Kd.C_drewN ?_ _)|(with_reducible refine Kd.C_drew ?_)))
       (case side4=>exact HC263_5.out)
       rintro e w16 ⟨rfl,hb⟩
       refine ⟨_,rfl,?_⟩
       have n0_:=Aside0.mk (below_step (by repeat (first|(with_reducible first|exact HB.out|apply below_alloc|apply pw_below_drewN|apply below_drew1)|exact HB.out)) hb)
       clear HB
       have HB:=n0_
       clear n0_
       (try clear hb)
       (try clear hb2)
       (try clear hk)
       (try clear hi)
       refine hK.out _ _ ⟨((HB.out.cell (World.block_lt_of_cell? w _ hw263_0)).trans hw263_0),((HB.out.cell (World.block_lt_of_cell? w _ hw263_1)).trans hw263_1),((HB.out.cell (World.block_lt_of_cell? w _ hw263_2)).trans hw263_2),((HB.out.cell (World.block_lt_of_cell? w _ hw263_3)).trans hw263_3),((HB.out.cell (World.block_lt_of_cell? w _ hw263_4)).trans hw263_4),((HB.out.cell (World.block_lt_of_cell? w _ hw263_5)).trans hw263_5)⟩ (fun hHeld=>?_)
       clear hK K
       refine norm_ (a':=?_) ?_ ?_
       rotate_left
       ·show Act.put _ (some 14) _=_
        simp only [Act.put,List.setIfInBounds_toArray,List.set_cons_zero,List.set_cons_succ,i64_w,i32_w]
        rfl
       refine pure_ (i:=5) (N:=some 15) (v:=?_) (a':=?_) #[true,true,true,true,true,true,false,false,false,false,false,false,false,false,false,false,false,false,false,false,false,false,false,false] rfl rfl (any_of HT_.out (by kernel_rfl)) (fun _ _ _ h=>h) (Or.inl ⟨by rfl,?_⟩) ?_ ?_
       rotate_left
       ·intro w'
        go_simp
        with_reducible rfl
       rotate_left
       ·simp only [Act.put,List.setIfInBounds_toArray,List.set_cons_zero,List.set_cons_succ,i64_w,i32_w]
        rfl
       refine pure_ (i:=6) (N:=some 16) (v:=?_) (a':=?_) #[true,true,true,true,true,true,true,false,false,false,false,false,false,false,false,false,false,false,false,false,false,false,false,false] rfl rfl (any_of HT_.out (by kernel_rfl)) (fun _ _ _ h=>h) (Or.inl ⟨by rfl,?_⟩) ?_ ?_
       rotate_left
       ·intro w'
        go_simp
        with_reducible rfl
       rotate_left
       ·simp only [Act.put,List.setIfInBounds_toArray,List.set_cons_zero,List.set_cons_succ,i64_w,i32_w]
        rfl
       refine pure_ (i:=7) (N:=some 17) (v:=?_) (a':=?_) #[true,true,true,true,true,true,true,true,false,false,false,false,false,false,false,false,false,false,false,false,false,false,false,false] rfl rfl (any_of HT_.out (by kernel_rfl)) (fun _ _ _ h=>h) (Or.inl ⟨by rfl,?_⟩) ?_ ?_
       rotate_left
       ·intro w'
        go_simp
        with_reducible rfl
       rotate_left
       ·simp only [Act.put,List.setIfInBounds_toArray,List.set_cons_zero,List.set_cons_succ,i64_w,i32_w]
        rfl
       refine pure_ (i:=8) (N:=some 18) (v:=?_) (a':=?_) #[true,true,true,true,true,true,true,true,true,false,false,false,false,false,false,false,false,false,false,false,false,false,false,false] rfl rfl (any_of HT_.out (by kernel_rfl)) (fun _ _ _ h=>h) (Or.inl ⟨by rfl,?_⟩) ?_ ?_
       rotate_left
       ·intro w'
        go_simp
        with_reducible rfl
       rotate_left
       ·simp only [Act.put,List.setIfInBounds_toArray,List.set_cons_zero,List.set_cons_succ,i64_w,i32_w]
        rfl
       refine pure_ (i:=9) (N:=some 19) (v:=?_) (a':=?_) #[true,true,true,true,true,true,true,true,true,true,false,false,false,false,false,false,false,false,false,false,false,false,false,false] rfl rfl (any_of HT_.out (by kernel_rfl)) (fun _ _ _ h=>h) (Or.inl ⟨by rfl,?_⟩) ?_ ?_
       rotate_left
       ·intro w'
        go_simp
        with_reducible rfl
       rotate_left
       ·simp only [Act.put,List.setIfInBounds_toArray,List.set_cons_zero,List.set_cons_succ,i64_w,i32_w]
        rfl
       refine pure_ (i:=10) (N:=some 20) (v:=undef) (a':=?_) #[true,true,true,true,true,true,true,true,true,true,true,false,false,false,false,false,false,false,false,false,false,false,false,false] rfl rfl (any_of HT_.out (by kernel_rfl)) (fun _ _ _ h=>h) (Or.inr ⟨by rfl,rfl⟩) ?_ ?_
       rotate_left
       ·simp only [Act.put,List.setIfInBounds_toArray,List.set_cons_zero,List.set_cons_succ,i64_w,i32_w]
        rfl
       refine pure_ (i:=11) (N:=some 21) (v:=undef) (a':=?_) #[true,true,true,true,true,true,true,true,true,true,true,true,false,false,false,false,false,false,false,false,false,false,false,false] rfl rfl (any_of HT_.out (by kernel_rfl)) (fun _ _ _ h=>h) (Or.inr ⟨by rfl,rfl⟩) ?_ ?_
       rotate_left
       ·simp only [Act.put,List.setIfInBounds_toArray,List.set_cons_zero,List.set_cons_succ,i64_w,i32_w]
        rfl
       refine pure_ (i:=12) (N:=some 22) (v:=undef) (a':=?_) #[true,true,true,true,true,true,true,true,true,true,true,true,true,false,false,false,false,false,false,false,false,false,false,false] rfl rfl (any_of HT_.out (by kernel_rfl)) (fun _ _ _ h=>h) (Or.inr ⟨by rfl,rfl⟩) ?_ ?_
       rotate_left
       ·simp only [Act.put,List.setIfInBounds_toArray,List.set_cons_zero,List.set_cons_succ,i64_w,i32_w]
        rfl
       refine pure_ (i:=13) (N:=some 23) (v:=undef) (a':=?_) #[true,true,true,true,true,true,true,true,true,true,true,true,true,true,false,false,false,false,false,false,false,false,false,false] rfl rfl (any_of HT_.out (by kernel_rfl)) (fun _ _ _ h=>h) (Or.inr ⟨by rfl,rfl⟩) ?_ ?_
       rotate_left
       ·simp only [Act.put,List.setIfInBounds_toArray,List.set_cons_zero,List.set_cons_succ,i64_w,i32_w]
        rfl
       refine pure_ (i:=14) (N:=some 24) (v:=undef) (a':=?_) #[true,true,true,true,true,true,true,true,true,true,true,true,true,true,true,false,false,false,false,false,false,false,false,false] rfl rfl (any_of HT_.out (by kernel_rfl)) (fun _ _ _ h=>h) (Or.inr ⟨by rfl,rfl⟩) ?_ ?_
       rotate_left
       ·simp only [Act.put,List.setIfInBounds_toArray,List.set_cons_zero,List.set_cons_succ,i64_w,i32_w]
        rfl
       refine pure_ (i:=15) (N:=some 25) (v:=undef) (a':=?_) #[true,true,true,true,true,true,true,true,true,true,true,true,true,true,true,true,false,false,false,false,false,false,false,false] rfl rfl (any_of HT_.out (by kernel_rfl)) (fun _ _ _ h=>h) (Or.inr ⟨by rfl,rfl⟩) ?_ ?_
       rotate_left
       ·simp only [Act.put,List.setIfInBounds_toArray,List.set_cons_zero,List.set_cons_succ,i64_w,i32_w]
        rfl
       refine pure_ (i:=16) (N:=some 26) (v:=undef) (a':=?_) #[true,true,true,true,true,true,true,true,true,true,true,true,true,true,true,true,true,false,false,false,false,false,false,false] rfl rfl (any_of HT_.out (by kernel_rfl)) (fun _ _ _ h=>h) (Or.inr ⟨by rfl,rfl⟩) ?_ ?_
       rotate_left
       ·simp only [Act.put,List.setIfInBounds_toArray,List.set_cons_zero,List.set_cons_succ,i64_w,i32_w]
        rfl
       refine pure_ (i:=17) (N:=some 27) (v:=undef) (a':=?_) #[true,true,true,true,true,true,true,true,true,true,true,true,true,true,true,true,true,true,false,false,false,false,false,false] rfl rfl (any_of HT_.out (by kernel_rfl)) (fun _ _ _ h=>h) (Or.inr ⟨by rfl,rfl⟩) ?_ ?_
       rotate_left
       ·simp only [Act.put,List.setIfInBounds_toArray,List.set_cons_zero,List.set_cons_succ,i64_w,i32_w]
        rfl
       refine pure_ (i:=18) (N:=some 28) (v:=undef) (a':=?_) #[true,true,true,true,true,true,true,true,true,true,true,true,true,true,true,true,true,true,true,false,false,false,false,false] rfl rfl (any_of HT_.out (by kernel_rfl)) (fun _ _ _ h=>h) (Or.inr ⟨by rfl,rfl⟩) ?_ ?_
       rotate_left
       ·simp only [Act.put,List.setIfInBounds_toArray,List.set_cons_zero,List.set_cons_succ,i64_w,i32_w]
        rfl
       refine pure_ (i:=19) (N:=some 29) (v:=undef) (a':=?_) #[true,true,true,true,true,true,true,true,true,true,true,true,true,true,true,true,true,true,true,true,false,false,false,false] rfl rfl (any_of HT_.out (by kernel_rfl)) (fun _ _ _ h=>h) (Or.inr ⟨by rfl,rfl⟩) ?_ ?_
       rotate_left
       ·simp only [Act.put,List.setIfInBounds_toArray,List.set_cons_zero,List.set_cons_succ,i64_w,i32_w]
        rfl
       refine pure_ (i:=20) (N:=some 30) (v:=undef) (a':=?_) #[true,true,true,true,true,true,true,true,true,true,true,true,true,true,true,true,true,true,true,true,true,false,false,false] rfl rfl (any_of HT_.out (by kernel_rfl)) (fun _ _ _ h=>h) (Or.inr ⟨by rfl,rfl⟩) ?_ ?_
       rotate_left
       ·simp only [Act.put,List.setIfInBounds_toArray,List.set_cons_zero,List.set_cons_succ,i64_w,i32_w]
        rfl
       refine pure_ (i:=21) (N:=some 31) (v:=undef) (a':=?_) #[true,true,true,true,true,true,true,true,true,true,true,true,true,true,true,true,true,true,true,true,true,true,false,false] rfl rfl (any_of HT_.out (by kernel_rfl)) (fun _ _ _ h=>h) (Or.inr ⟨by rfl,rfl⟩) ?_ ?_
       rotate_left
       ·simp only [Act.put,List.setIfInBounds_toArray,List.set_cons_zero,List.set_cons_succ,i64_w,i32_w]
        rfl
       refine pure_ (i:=22) (N:=some 32) (v:=?_) (a':=?_) #[true,true,true,true,true,true,true,true,true,true,true,true,true,true,true,true,true,true,true,true,true,true,true,false] rfl rfl (any_of HT_.out (by kernel_rfl)) (fun _ _ _ h=>h) (Or.inl ⟨by rfl,?_⟩) ?_ ?_
       rotate_left
       ·intro w'
        go_simp
        with_reducible rfl
       rotate_left
       ·simp only [Act.put,List.setIfInBounds_toArray,List.set_cons_zero,List.set_cons_succ,i64_w,i32_w]
        rfl
       refine pure_ (i:=23) (N:=some 33) (v:=?_) (a':=?_) #[true,true,true,true,true,true,true,true,true,true,true,true,true,true,true,true,true,true,true,true,true,true,true,true] rfl rfl (any_of HT_.out (by kernel_rfl)) (fun _ _ _ h=>h) (Or.inl ⟨by rfl,?_⟩) ?_ ?_
       rotate_left
       ·intro w'
        go_simp
        with_reducible rfl
       rotate_left
       ·simp only [Act.put,List.setIfInBounds_toArray,List.set_cons_zero,List.set_cons_succ,i64_w,i32_w]
        rfl
       refine done_ (done_of HT_.out (by kernel_rfl)) ?_
       try go_wp2
       go_roundg k1
       case measure=>have:=HK1.out;omega
       case rel=>exact ⟨(wrap64 (x3_1 + 1)),(by first|rfl|(simp;done)|(simp [*];done)),H',⟨by have:=HK1.out;omega⟩,⟨by repeat (first|(with_reducible first|exact HB.out|apply below_alloc|apply pw_below_drewN|apply below_drew1)|exact HB.out)⟩⟩
     ·replace c5:=Bool.eq_false_iff.mpr c5
      subst c5
      have H1 : (some false)=some r:=by rw [if_neg (show ¬ (false=true) by decide)] at H;exact H
      clear H
      have H:=H1
      clear H1
      obtain rfl:=Option.some.inj H
      try go_wp2
      have n0_:=Aside0.mk (below_drew1 HB.out)
      clear HB
      have HB:=n0_
      clear n0_
      have p263 : 0 ≤ (x3_1 : Int):=of_decide_eq_true (by first|(with_reducible assumption)|assumption)
      have q263 : x3_1 < (l0.length : Int):=of_decide_eq_true (by first|(with_reducible assumption)|assumption)
      obtain ⟨ad263,A263_3,c263_3,A263_5,c263_5,e263,hx263_0,hx263_1,hx263_2,hx263_3,hx263_4,hx263_5,hl263_3,hi263_3,hl263_5,hi263_5⟩:=at_T27 HR0.out x3_1 p263 q263
      have hw263_5:=hx263_5
      have hw263_4:=hx263_4
      have hw263_3:=hx263_3
      have hw263_2:=hx263_2
      have hw263_1:=hx263_1
      have hw263_0:=hx263_0
      cases e263
      replace hx263_0:=(HB.out.cell (World.block_lt_of_cell? w _ hx263_0)).trans hx263_0
      replace hx263_1:=(HB.out.cell (World.block_lt_of_cell? w _ hx263_1)).trans hx263_1
      replace hx263_2:=(HB.out.cell (World.block_lt_of_cell? w _ hx263_2)).trans hx263_2
      replace hx263_3:=(HB.out.cell (World.block_lt_of_cell? w _ hx263_3)).trans hx263_3
      replace hx263_4:=(HB.out.cell (World.block_lt_of_cell? w _ hx263_4)).trans hx263_4
      replace hx263_5:=(HB.out.cell (World.block_lt_of_cell? w _ hx263_5)).trans hx263_5
      have HR263_3:=Aside0.mk hi263_3
      have HC263_3:=Aside0.mk hl263_3
      clear hi263_3 hl263_3
      have HR263_5:=Aside0.mk hi263_5
      have HC263_5:=Aside0.mk hl263_5
      clear hi263_5 hl263_5
      replace p263:=eq_true p263
      replace q263:=eq_true q263
      refine start_ (n:=24) (S:=fun w'=>w'.cell? (ad263.add ((x3_1).toNat * 6))=some (.int .i64 ((rd_T27 l0 x3_1).f0))∧w'.cell? ⟨(ad263.add ((x3_1).toNat * 6)).block,(ad263.add ((x3_1).toNat * 6)).off + 1,none⟩ = some (.int .i64 ((rd_T27 l0 x3_1).f1))∧w'.cell? ⟨(ad263.add ((x3_1).toNat * 6)).block,(ad263.add ((x3_1).toNat * 6)).off + 2,none⟩ = some (.bool ((rd_T27 l0 x3_1).f2))∧w'.cell? ⟨(ad263.add ((x3_1).toNat * 6)).block,(ad263.add ((x3_1).toNat * 6)).off + 3,none⟩ = some (.slice A263_3 ((rd_T27 l0 x3_1).f3).length c263_3)∧w'.cell? ⟨(ad263.add ((x3_1).toNat * 6)).block,(ad263.add ((x3_1).toNat * 6)).off + 4,none⟩ = some (.bool ((rd_T27 l0 x3_1).f4))∧w'.cell? ⟨(ad263.add ((x3_1).toNat * 6)).block,(ad263.add ((x3_1).toNat * 6)).off + 5,none⟩ = some (.slice A263_5 ((rd_T27 l0 x3_1).f5).length c263_5)) (ds:=[]) #[false,false,false,false,false,false,false,false,false,false,false,false,false,false,false,false,false,false,false,false,false,false,false,false] (by kernel_rfl) rfl rfl ⟨((HB.out.cell (World.block_lt_of_cell? w _ hw263_0)).trans hw263_0),((HB.out.cell (World.block_lt_of_cell? w _ hw263_1)).trans hw263_1),((HB.out.cell (World.block_lt_of_cell? w _ hw263_2)).trans hw263_2),((HB.out.cell (World.block_lt_of_cell? w _ hw263_3)).trans hw263_3),((HB.out.cell (World.block_lt_of_cell? w _ hw263_4)).trans hw263_4),((HB.out.cell (World.block_lt_of_cell? w _ hw263_5)).trans hw263_5)⟩ (fun hHeld=>?_);refine with_tabW spec_l5Records.tab4 spec_l5Records.bits4 (fun HT_ HW_=>?_)
      generalize wr.drew=w17 at HB HR263_3 HR263_5 hx263_0 hx263_1 hx263_2 hx263_3 hx263_4 hx263_5 hHeld ⊢
      refine pure_ (i:=0) (N:=some 10) (v:=?_) (a':=?_) #[true,false,false,false,false,false,false,false,false,false,false,false,false,false,false,false,false,false,false,false,false,false,false,false] rfl rfl (any_of HT_.out (by kernel_rfl)) (fun _ _ _ h=>h) (Or.inl ⟨by rfl,?_⟩) ?_ ?_
      rotate_left
      ·intro w'
       go_simp
       with_reducible rfl
      rotate_left
      ·simp only [Act.put,List.setIfInBounds_toArray,List.set_cons_zero,List.set_cons_succ,i64_w,i32_w]
       rfl
      refine pure_ (i:=1) (N:=some 11) (v:=?_) (a':=?_) #[true,true,false,false,false,false,false,false,false,false,false,false,false,false,false,false,false,false,false,false,false,false,false,false] rfl rfl (any_of HT_.out (by kernel_rfl)) (fun _ _ _ h=>h) (Or.inl ⟨by rfl,?_⟩) ?_ ?_
      rotate_left
      ·intro w'
       go_simp
       with_reducible rfl
      rotate_left
      ·simp only [Act.put,List.setIfInBounds_toArray,List.set_cons_zero,List.set_cons_succ,i64_w,i32_w]
       rfl
      refine pure_ (i:=2) (N:=some 12) (v:=?_) (a':=?_) #[true,true,true,false,false,false,false,false,false,false,false,false,false,false,false,false,false,false,false,false,false,false,false,false] rfl rfl (any_of HT_.out (by kernel_rfl)) (fun _ _ _ h=>h) (Or.inl ⟨by rfl,?_⟩) ?_ ?_
      rotate_left
      ·intro w'
       go_simp
       with_reducible rfl
      rotate_left
      ·simp only [Act.put,List.setIfInBounds_toArray,List.set_cons_zero,List.set_cons_succ,i64_w,i32_w]
       rfl
      refine take_ (i:=3) (N:=some 13) (v:=?_) (a':=?_) #[true,true,true,true,false,false,false,false,false,false,false,false,false,false,false,false,false,false,false,false,false,false,false,false] rfl rfl (take_ofW HT_.out HW_.out (by kernel_rfl)) (fun _ _ _ h=>h) (Or.inl ⟨by rfl,?_⟩) hHeld ?_ ?_
      rotate_left
      ·rintro w' ⟨s0,s1,s2,s3,s4,s5⟩
       go_simp
       with_reducible rfl
      rotate_left
      ·simp only [Act.put,List.setIfInBounds_toArray,List.set_cons_zero,List.set_cons_succ,i64_w,i32_w]
       rfl
      refine one_ (i:=4) (N:=some 14) #[true,true,true,true,true,false,false,false,false,false,false,false,false,false,false,false,false,false,false,false,false,false,false,false] rfl rfl (one_of HT_.out (by kernel_rfl)) (by decide) (fun K hK=>?_)
      refine goes_ Try.func16 (by kernel_rfl) rfl #[.agg #[.int .i64 ((rd_T27 l0 x3_1).f0),.int .i64 ((rd_T27 l0 x3_1).f1),.bool ((rd_T27 l0 x3_1).f2),.slice A263_3 ((rd_T27 l0 x3_1).f3).length c263_3,.bool ((rd_T27 l0 x3_1).f4),.slice A263_5 ((rd_T27 l0 x3_1).f5).length c263_5]] (by rfl) rfl rfl (by (try simp only [List.map_toArray,List.map_cons,List.map_nil]);first|done|rfl|(simp only [List.length_drop,List.length_take];rfl)) ?_
      with_reducible refine (spec_RecordValid.calls k1 ((rd_T27 l0 x3_1).f0) ((rd_T27 l0 x3_1).f1) ((rd_T27 l0 x3_1).f2) _ _ ((rd_T27 l0 x3_1).f3) ((rd_T27 l0 x3_1).f4) _ _ ((rd_T27 l0 x3_1).f5) false _ ?side1 ?side2 ?side3 ?side4 A4.out).mono ?_
      (case side1=>repeat (first|exact (Kd.C_below HR263_3.out HB.out)|(with_reducible refine Kd.C_alloc ?_ _)|(with_reducible refine Kd.C_drewN ?_ _)|(with_reducible refine Kd.C_drew ?_)))
      (case side2=>exact HC263_3.out)
      (case side3=>repeat (first|exact (Kd.C_below HR263_5.out HB.out)|(with_reducible refine Kd.C_alloc ?_ _)|(with_reducible refine Kd.C_drewN ?_ _)|(with_reducible refine Kd.C_drew ?_)))
      (case side4=>exact HC263_5.out)
      rintro e w18 ⟨rfl,hb⟩
      refine ⟨_,rfl,?_⟩
      have n0_:=Aside0.mk (below_step (by repeat (first|(with_reducible first|exact HB.out|apply below_alloc|apply pw_below_drewN|apply below_drew1)|exact HB.out)) hb)
      clear HB
      have HB:=n0_
      clear n0_
      (try clear hb)
      (try clear hb2)
      (try clear hk)
      (try clear hi)
      refine hK.out _ _ ⟨((HB.out.cell (World.block_lt_of_cell? w _ hw263_0)).trans hw263_0),((HB.out.cell (World.block_lt_of_cell? w _ hw263_1)).trans hw263_1),((HB.out.cell (World.block_lt_of_cell? w _ hw263_2)).trans hw263_2),((HB.out.cell (World.block_lt_of_cell? w _ hw263_3)).trans hw263_3),((HB.out.cell (World.block_lt_of_cell? w _ hw263_4)).trans hw263_4),((HB.out.cell (World.block_lt_of_cell? w _ hw263_5)).trans hw263_5)⟩ (fun hHeld=>?_)
      clear hK K
      refine norm_ (a':=?_) ?_ ?_
      rotate_left
      ·show Act.put _ (some 14) _=_
       simp only [Act.put,List.setIfInBounds_toArray,List.set_cons_zero,List.set_cons_succ,i64_w,i32_w]
       rfl
      refine pure_ (i:=5) (N:=some 15) (v:=?_) (a':=?_) #[true,true,true,true,true,true,false,false,false,false,false,false,false,false,false,false,false,false,false,false,false,false,false,false] rfl rfl (any_of HT_.out (by kernel_rfl)) (fun _ _ _ h=>h) (Or.inl ⟨by rfl,?_⟩) ?_ ?_
      rotate_left
      ·intro w'
       go_simp
       with_reducible rfl
      rotate_left
      ·simp only [Act.put,List.setIfInBounds_toArray,List.set_cons_zero,List.set_cons_succ,i64_w,i32_w]
       rfl
      refine pure_ (i:=6) (N:=some 16) (v:=?_) (a':=?_) #[true,true,true,true,true,true,true,false,false,false,false,false,false,false,false,false,false,false,false,false,false,false,false,false] rfl rfl (any_of HT_.out (by kernel_rfl)) (fun _ _ _ h=>h) (Or.inl ⟨by rfl,?_⟩) ?_ ?_
      rotate_left
      ·intro w'
       go_simp
       with_reducible rfl
      rotate_left
      ·simp only [Act.put,List.setIfInBounds_toArray,List.set_cons_zero,List.set_cons_succ,i64_w,i32_w]
       rfl
      refine pure_ (i:=7) (N:=some 17) (v:=undef) (a':=?_) #[true,true,true,true,true,true,true,true,false,false,false,false,false,false,false,false,false,false,false,false,false,false,false,false] rfl rfl (any_of HT_.out (by kernel_rfl)) (fun _ _ _ h=>h) (Or.inr ⟨by rfl,rfl⟩) ?_ ?_
      rotate_left
      ·simp only [Act.put,List.setIfInBounds_toArray,List.set_cons_zero,List.set_cons_succ,i64_w,i32_w]
       rfl
      refine pure_ (i:=8) (N:=some 18) (v:=undef) (a':=?_) #[true,true,true,true,true,true,true,true,true,false,false,false,false,false,false,false,false,false,false,false,false,false,false,false] rfl rfl (any_of HT_.out (by kernel_rfl)) (fun _ _ _ h=>h) (Or.inr ⟨by rfl,rfl⟩) ?_ ?_
      rotate_left
      ·simp only [Act.put,List.setIfInBounds_toArray,List.set_cons_zero,List.set_cons_succ,i64_w,i32_w]
       rfl
      refine pure_ (i:=9) (N:=some 19) (v:=undef) (a':=?_) #[true,true,true,true,true,true,true,true,true,true,false,false,false,false,false,false,false,false,false,false,false,false,false,false] rfl rfl (any_of HT_.out (by kernel_rfl)) (fun _ _ _ h=>h) (Or.inr ⟨by rfl,rfl⟩) ?_ ?_
      rotate_left
      ·simp only [Act.put,List.setIfInBounds_toArray,List.set_cons_zero,List.set_cons_succ,i64_w,i32_w]
       rfl
      refine pure_ (i:=10) (N:=some 20) (v:=undef) (a':=?_) #[true,true,true,true,true,true,true,true,true,true,true,false,false,false,false,false,false,false,false,false,false,false,false,false] rfl rfl (any_of HT_.out (by kernel_rfl)) (fun _ _ _ h=>h) (Or.inr ⟨by rfl,rfl⟩) ?_ ?_
      rotate_left
      ·simp only [Act.put,List.setIfInBounds_toArray,List.set_cons_zero,List.set_cons_succ,i64_w,i32_w]
       rfl
      refine pure_ (i:=11) (N:=some 21) (v:=undef) (a':=?_) #[true,true,true,true,true,true,true,true,true,true,true,true,false,false,false,false,false,false,false,false,false,false,false,false] rfl rfl (any_of HT_.out (by kernel_rfl)) (fun _ _ _ h=>h) (Or.inr ⟨by rfl,rfl⟩) ?_ ?_
      rotate_left
      ·simp only [Act.put,List.setIfInBounds_toArray,List.set_cons_zero,List.set_cons_succ,i64_w,i32_w]
       rfl
      refine pure_ (i:=12) (N:=some 22) (v:=undef) (a':=?_) #[true,true,true,true,true,true,true,true,true,true,true,true,true,false,false,false,false,false,false,false,false,false,false,false] rfl rfl (any_of HT_.out (by kernel_rfl)) (fun _ _ _ h=>h) (Or.inr ⟨by rfl,rfl⟩) ?_ ?_
      rotate_left
      ·simp only [Act.put,List.setIfInBounds_toArray,List.set_cons_zero,List.set_cons_succ,i64_w,i32_w]
       rfl
      refine pure_ (i:=13) (N:=some 23) (v:=undef) (a':=?_) #[true,true,true,true,true,true,true,true,true,true,true,true,true,true,false,false,false,false,false,false,false,false,false,false] rfl rfl (any_of HT_.out (by kernel_rfl)) (fun _ _ _ h=>h) (Or.inr ⟨by rfl,rfl⟩) ?_ ?_
      rotate_left
      ·simp only [Act.put,List.setIfInBounds_toArray,List.set_cons_zero,List.set_cons_succ,i64_w,i32_w]
       rfl
      refine pure_ (i:=14) (N:=some 24) (v:=undef) (a':=?_) #[true,true,true,true,true,true,true,true,true,true,true,true,true,true,true,false,false,false,false,false,false,false,false,false] rfl rfl (any_of HT_.out (by kernel_rfl)) (fun _ _ _ h=>h) (Or.inr ⟨by rfl,rfl⟩) ?_ ?_
      rotate_left
      ·simp only [Act.put,List.setIfInBounds_toArray,List.set_cons_zero,List.set_cons_succ,i64_w,i32_w]
       rfl
      refine pure_ (i:=15) (N:=some 25) (v:=undef) (a':=?_) #[true,true,true,true,true,true,true,true,true,true,true,true,true,true,true,true,false,false,false,false,false,false,false,false] rfl rfl (any_of HT_.out (by kernel_rfl)) (fun _ _ _ h=>h) (Or.inr ⟨by rfl,rfl⟩) ?_ ?_
      rotate_left
      ·simp only [Act.put,List.setIfInBounds_toArray,List.set_cons_zero,List.set_cons_succ,i64_w,i32_w]
       rfl
      refine pure_ (i:=16) (N:=some 26) (v:=undef) (a':=?_) #[true,true,true,true,true,true,true,true,true,true,true,true,true,true,true,true,true,false,false,false,false,false,false,false] rfl rfl (any_of HT_.out (by kernel_rfl)) (fun _ _ _ h=>h) (Or.inr ⟨by rfl,rfl⟩) ?_ ?_
      rotate_left
      ·simp only [Act.put,List.setIfInBounds_toArray,List.set_cons_zero,List.set_cons_succ,i64_w,i32_w]
       rfl
      refine pure_ (i:=17) (N:=some 27) (v:=undef) (a':=?_) #[true,true,true,true,true,true,true,true,true,true,true,true,true,true,true,true,true,true,false,false,false,false,false,false] rfl rfl (any_of HT_.out (by kernel_rfl)) (fun _ _ _ h=>h) (Or.inr ⟨by rfl,rfl⟩) ?_ ?_
      rotate_left
      ·simp only [Act.put,List.setIfInBounds_toArray,List.set_cons_zero,List.set_cons_succ,i64_w,i32_w]
       rfl
      refine pure_ (i:=18) (N:=some 28) (v:=undef) (a':=?_) #[true,true,true,true,true,true,true,true,true,true,true,true,true,true,true,true,true,true,true,false,false,false,false,false] rfl rfl (any_of HT_.out (by kernel_rfl)) (fun _ _ _ h=>h) (Or.inr ⟨by rfl,rfl⟩) ?_ ?_
      rotate_left
      ·simp only [Act.put,List.setIfInBounds_toArray,List.set_cons_zero,List.set_cons_succ,i64_w,i32_w]
       rfl
      refine pure_ (i:=19) (N:=some 29) (v:=undef) (a':=?_) #[true,true,true,true,true,true,true,true,true,true,true,true,true,true,true,true,true,true,true,true,false,false,false,false] rfl rfl (any_of HT_.out (by kernel_rfl)) (fun _ _ _ h=>h) (Or.inr ⟨by rfl,rfl⟩) ?_ ?_
      rotate_left
      ·simp only [Act.put,List.setIfInBounds_toArray,List.set_cons_zero,List.set_cons_succ,i64_w,i32_w]
       rfl
      refine pure_ (i:=20) (N:=some 30) (v:=undef) (a':=?_) #[true,true,true,true,true,true,true,true,true,true,true,true,true,true,true,true,true,true,true,true,true,false,false,false] rfl rfl (any_of HT_.out (by kernel_rfl)) (fun _ _ _ h=>h) (Or.inr ⟨by rfl,rfl⟩) ?_ ?_
      rotate_left
      ·simp only [Act.put,List.setIfInBounds_toArray,List.set_cons_zero,List.set_cons_succ,i64_w,i32_w]
       rfl
      refine pure_ (i:=21) (N:=some 31) (v:=undef) (a':=?_) #[true,true,true,true,true,true,true,true,true,true,true,true,true,true,true,true,true,true,true,true,true,true,false,false] rfl rfl (any_of HT_.out (by kernel_rfl)) (fun _ _ _ h=>h) (Or.inr ⟨by rfl,rfl⟩) ?_ ?_
      rotate_left
      ·simp only [Act.put,List.setIfInBounds_toArray,List.set_cons_zero,List.set_cons_succ,i64_w,i32_w]
       rfl
      refine pure_ (i:=22) (N:=some 32) (v:=undef) (a':=?_) #[true,true,true,true,true,true,true,true,true,true,true,true,true,true,true,true,true,true,true,true,true,true,true,false] rfl rfl (any_of HT_.out (by kernel_rfl)) (fun _ _ _ h=>h) (Or.inr ⟨by rfl,rfl⟩) ?_ ?_
      rotate_left
      ·simp only [Act.put,List.setIfInBounds_toArray,List.set_cons_zero,List.set_cons_succ,i64_w,i32_w]
       rfl
      refine pure_ (i:=23) (N:=some 33) (v:=?_) (a':=?_) #[true,true,true,true,true,true,true,true,true,true,true,true,true,true,true,true,true,true,true,true,true,true,true,true] rfl rfl (any_of HT_.out (by kernel_rfl)) (fun _ _ _ h=>h) (Or.inl ⟨by rfl,?_⟩) ?_ ?_
      rotate_left
      ·intro w'
       go_simp
       with_reducible rfl
      rotate_left
      ·simp only [Act.put,List.setIfInBounds_toArray,List.set_cons_zero,List.set_cons_succ,i64_w,i32_w]
       rfl
      refine done_ (done_of HT_.out (by kernel_rfl)) ?_
      try go_wp2
      go_ret
      exact ⟨by first|rfl|(simp [errW_none,errW_some] <;> rfl)|(simp [*,errW_none,errW_some] <;> rfl),by repeat (first|(with_reducible first|exact HB.out|apply below_alloc|apply pw_below_drewN|apply below_drew1)|exact HB.out)⟩
    ·rw [if_neg c3] at H
     exact absurd H (by simp)
   ·rw [if_neg c2] at H
    have c2b0 : decide (x3_1 < (l0.length : Int))=false:=decide_eq_false c2
    clear c2
    replace H:=Option.bind_eq_some_iff.mp H
    obtain ⟨t267,A190,H⟩:=H
    replace H : (some t267)=some r:=H
    have A19:=Aside0.mk A190
    clear A190
    obtain rfl:=Option.some.inj H
    go_wp2_with (first|((with_reducible refine gate_callee (f:=54) rfl ?_);refine goesL_ (some 36) rfl rfl Try.func54 (by kernel_rfl) rfl #[.int .i64 (l0.length : Int),.int .i64 1,.int .i64 6] rfl (by (try simp only [List.map_toArray,List.map_cons,List.map_nil]);first|done|rfl|(simp only [List.length_drop,List.length_take];rfl)) ?_;(with_reducible refine (spec_l6In.calls (l0.length : Int) 1 6 t267 _ A19.out).mono ?_);rintro e w' ⟨rfl,⟨nd,rfl⟩⟩;refine ⟨_,rfl,?_⟩))
    go_ret
    exact ⟨by first|rfl|(simp [errW_none,errW_some] <;> rfl)|(simp [*,errW_none,errW_some] <;> rfl),by repeat (first|(with_reducible first|exact HB.out|apply below_alloc|apply pw_below_drewN|apply below_drew1)|exact HB.out)⟩

end Go.Proofs.Ytdgpkjjclngamaa.QFnBatchSpan
