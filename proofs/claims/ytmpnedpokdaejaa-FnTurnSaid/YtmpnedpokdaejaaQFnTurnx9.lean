-- Written by this session's program wip/ownprint.py.
import Derived.Test.YtmpnedpokdaejaaQFnTurnx0
import Derived.Test.YtmpnedpokdaejaaQFnTurnx8
namespace Go.Proofs.Ytmpnedpokdaejaa.QFnTurn
open Go.RowKit Go.Proofs.YtmpnedpokdaejaaW.PrintWords Go.Proofs.YtmpnedpokdaejaaW.PrintLast Go.Proofs.YtmpnedpokdaejaaW.PrintMore
attribute [local go_sem] max2_int min2_int max_two min_two max_three min_three max_four min_four   -- for this text's walks alone
set_option linter.unusedVariables false
set_option linter.unusedSimpArgs false

/-! ### laws_sameRecords: function 69 -/
def laws_sameRecords.l0 : Nat→List (S57)→List (S57)→Int→Option (Bool)
 | 0,_,_,_=>none
 | k + 1,x0,x1,x5=>if x5 < (x0.length : Int) then (if 0 ≤ x5 then (if x5 < (x1.length : Int) then ((laws_sameRecord.f k ((rd_T57 x0 x5).f0) ((rd_T57 x0 x5).f1) ((rd_T57 x0 x5).f2) ((rd_T57 x0 x5).f3) ((rd_T57 x0 x5).f4) ((rd_T57 x0 x5).f5) ((rd_T57 x1 x5).f0) ((rd_T57 x1 x5).f1) ((rd_T57 x1 x5).f2) ((rd_T57 x1 x5).f3) ((rd_T57 x1 x5).f4) ((rd_T57 x1 x5).f5)).bind fun t313=>(if t313=true then (laws_sameRecords.l0 k x0 x1 (wrap64 (x5 + 1))) else (some false))) else (none)) else (none)) else (some true)
def laws_sameRecords.f (k : Nat) (l0 : List (S57)) (l1 : List (S57)) : Option (Bool):=if (l0.length : Int)=(l1.length : Int) then (laws_sameRecords.l0 k l0 l1 0) else (some false)
theorem laws_sameRecords.mono_l : ∀ k,(∀ y0 y1 y2,LeO (laws_sameRecords.l0 k y0 y1 y2) (laws_sameRecords.l0 (k + 1) y0 y1 y2))
 | 0=>fun _ _ _ r h=>by simp [laws_sameRecords.l0] at h
 | k + 1=>by
  have ih0:=laws_sameRecords.mono_l k
  ·intro y0 y1 y2
   unfold laws_sameRecords.l0
   repeat' first
   | (with_reducible exact ih0 _ _ _)
   | (with_reducible exact laws_sameRecord.mono _ _ _ _ _ _ _ _ _ _ _ _ _)
   | (with_reducible exact LeO.refl _)
   | (with_reducible exact LeO.none _)
   | (with_reducible refine LeO.ite ?_ ?_)
   | (with_reducible refine LeO.bind ?_ (fun _=>?_))
   | exact ih0 _ _ _
   | exact laws_sameRecord.mono _ _ _ _ _ _ _ _ _ _ _ _ _
   | exact LeO.none _
   | refine LeO.ite ?_ ?_
   | refine LeO.bind ?_ (fun _=>?_)
theorem laws_sameRecords.mono : ∀ a0 a1 k,LeO (laws_sameRecords.f k a0 a1) (laws_sameRecords.f (k + 1) a0 a1):=by
 intro a0 a1 k
 have ih0:=laws_sameRecords.mono_l k
 unfold laws_sameRecords.f
 repeat' first
   | (with_reducible exact ih0 _ _ _)
   | (with_reducible exact laws_sameRecord.mono _ _ _ _ _ _ _ _ _ _ _ _ _)
   | (with_reducible exact LeO.refl _)
   | (with_reducible exact LeO.none _)
   | (with_reducible refine LeO.ite ?_ ?_)
   | (with_reducible refine LeO.bind ?_ (fun _=>?_))
   | exact ih0 _ _ _
   | exact laws_sameRecord.mono _ _ _ _ _ _ _ _ _ _ _ _ _
   | exact LeO.none _
   | refine LeO.ite ?_ ?_
   | refine LeO.bind ?_ (fun _=>?_)
def laws_sameRecords.T6 : Bool × List (List Nat × List Nat):=(true,[([],[]),([],[]),([0,1],[0,1]),([2],[2]),([],[]),([],[]),([4,5],[4,5]),([6],[6]),([3,7],[3,7]),([8],[8])])
def laws_sameRecords.B6 : List Nat:=[0,0,3,7,0,0,48,112,255,511]
theorem laws_sameRecords.tab6 : rtab .any (opsOf Try.f69 6)=laws_sameRecords.T6:=by kernel_rfl
theorem laws_sameRecords.bits6 : waitsOk laws_sameRecords.T6.2 laws_sameRecords.B6=true:=by kernel_rfl
set_option maxHeartbeats 8000000 in
set_option maxRecDepth 100000 in
theorem laws_sameRecords.calls (k : Nat) (A0 : Option Addr) (c0 : Nat) (l0 : List (S57)) (A1 : Option Addr) (c1 : Nat) (l1 : List (S57)) (r : Bool) (w : World) (hr0 : Kd.C k57 w A0 l0.length l0) (hc0 : l0.length ≤ c0) (hr1 : Kd.C k57 w A1 l1.length l1) (hc1 : l1.length ≤ c1) (h : laws_sameRecords.f k l0 l1=some r) :
  Calls Try.prog 69 #[.slice A0 l0.length c0,.slice A1 l1.length c1] w fun e w'=>e = .returned (.bool r)∧Below w.heap.size w w':=by
 have hu57:=Try.underlying57
 have HR0:=Aside0.mk hr0
 have HC0:=Aside0.mk hc0
 clear hr0 hc0
 have HR1:=Aside0.mk hr1
 have HC1:=Aside0.mk hc1
 clear hr1 hc1
 have HB:=Aside0.mk (Below.refl w.heap.size w)
 have H : (if (l0.length : Int)=(l1.length : Int) then (laws_sameRecords.l0 k l0 l1 0) else (some false))=some r:=h
 clear h
 by_cases c3 : (l0.length : Int)=(l1.length : Int)
 ·rw [if_pos c3] at H
  have c3b0 : ((l0.length : Int) == (l1.length : Int))=true:=beq_iff_eq.mpr c3
  have c3b1 : ((l0.length : Int) != (l1.length : Int))=false:=bne_eq_false_iff_eq.mpr c3
  have c3b2 : (l0.length == l1.length)=true:=by first|simpa using c3|(simp at c3 ⊢;omega)
  clear c3
  have H':=Aside0.mk H
  clear H
  go_enter Try.func69,Try.ntmps69
  go_wp2
  go_loopg [5] k (fun kq v5 w'=>∃ (x5_1 : Int),v5 = .int .i64 x5_1∧Aside0 (laws_sameRecords.l0 kq l0 l1 x5_1=some r)∧Aside0 (kq ≤ k)∧Aside0 (Below w.heap.size w w'))
  case atStart=>exact ⟨(0),(by first|rfl|(simp;done)|(simp [*];done)),H',⟨Nat.le_refl _⟩,⟨by repeat (first|(with_reducible first|exact HB.out|apply below_alloc|apply pw_below_drewN|apply below_drew1)|exact HB.out)⟩⟩
  case round =>
   clear H'
   try clear c1
   try clear p2
   try clear c3
   try clear c3b0
   try clear c3b1
   try clear c3b2
   obtain ⟨x5_1,rfl,HA,HK1,HB⟩:=hrel
   cases gk with
   | zero=>exact absurd HA.out (by simp [laws_sameRecords.l0])
   | succ k1 =>
    have H:=HA.out
    clear HA
    simp only [laws_sameRecords.l0] at H
    by_cases c4 : x5_1 < (l0.length : Int)
    ·rw [if_pos c4] at H
     have c4b0 : decide (x5_1 < (l0.length : Int))=true:=decide_eq_true c4
     clear c4
     by_cases c5 : 0 ≤ x5_1
     ·rw [if_pos c5] at H
      have c5b0 : decide (0 ≤ x5_1)=true:=decide_eq_true c5
      clear c5
      by_cases c6 : x5_1 < (l1.length : Int)
      ·rw [if_pos c6] at H
       have c6b0 : decide (x5_1 < (l1.length : Int))=true:=decide_eq_true c6
       clear c6
       replace H:=Option.bind_eq_some_iff.mp H
       obtain ⟨t313,A70,H⟩:=H
       replace H : (if t313=true then (laws_sameRecords.l0 k1 l0 l1 (wrap64 (x5_1 + 1))) else (some false))=some r:=H
       have A7:=Aside0.mk A70
       clear A70
       by_cases c8 : t313=true
       ·subst c8
        have H1 : (laws_sameRecords.l0 k1 l0 l1 (wrap64 (x5_1 + 1)))=some r:=by rw [if_pos rfl] at H;exact H
        clear H
        have H:=H1
        clear H1
        have H':=Aside0.mk H
        clear H
        try go_wp2
        have n0_:=Aside0.mk (below_drew1 HB.out)
        clear HB
        have HB:=n0_
        clear n0_
        have p311 : 0 ≤ (x5_1 : Int):=of_decide_eq_true (by first|(with_reducible assumption)|assumption)
        have q311 : x5_1 < (l0.length : Int):=of_decide_eq_true (by first|(with_reducible assumption)|assumption)
        obtain ⟨ad311,A311_3,c311_3,A311_5,c311_5,e311,hx311_0,hx311_1,hx311_2,hx311_3,hx311_4,hx311_5,hl311_3,hi311_3,hl311_5,hi311_5⟩:=at_T57 HR0.out x5_1 p311 q311
        have hw311_5:=hx311_5
        have hw311_4:=hx311_4
        have hw311_3:=hx311_3
        have hw311_2:=hx311_2
        have hw311_1:=hx311_1
        have hw311_0:=hx311_0
        cases e311
        replace hx311_0:=(HB.out.cell (World.block_lt_of_cell? w _ hx311_0)).trans hx311_0
        replace hx311_1:=(HB.out.cell (World.block_lt_of_cell? w _ hx311_1)).trans hx311_1
        replace hx311_2:=(HB.out.cell (World.block_lt_of_cell? w _ hx311_2)).trans hx311_2
        replace hx311_3:=(HB.out.cell (World.block_lt_of_cell? w _ hx311_3)).trans hx311_3
        replace hx311_4:=(HB.out.cell (World.block_lt_of_cell? w _ hx311_4)).trans hx311_4
        replace hx311_5:=(HB.out.cell (World.block_lt_of_cell? w _ hx311_5)).trans hx311_5
        have HR311_3:=Aside0.mk hi311_3
        have HC311_3:=Aside0.mk hl311_3
        clear hi311_3 hl311_3
        have HR311_5:=Aside0.mk hi311_5
        have HC311_5:=Aside0.mk hl311_5
        clear hi311_5 hl311_5
        replace p311:=eq_true p311
        replace q311:=eq_true q311
        have p312 : 0 ≤ (x5_1 : Int):=of_decide_eq_true (by first|(with_reducible assumption)|assumption)
        have q312 : x5_1 < (l1.length : Int):=of_decide_eq_true (by first|(with_reducible assumption)|assumption)
        obtain ⟨ad312,A312_3,c312_3,A312_5,c312_5,e312,hx312_0,hx312_1,hx312_2,hx312_3,hx312_4,hx312_5,hl312_3,hi312_3,hl312_5,hi312_5⟩:=at_T57 HR1.out x5_1 p312 q312
        have hw312_5:=hx312_5
        have hw312_4:=hx312_4
        have hw312_3:=hx312_3
        have hw312_2:=hx312_2
        have hw312_1:=hx312_1
        have hw312_0:=hx312_0
        cases e312
        replace hx312_0:=(HB.out.cell (World.block_lt_of_cell? w _ hx312_0)).trans hx312_0
        replace hx312_1:=(HB.out.cell (World.block_lt_of_cell? w _ hx312_1)).trans hx312_1
        replace hx312_2:=(HB.out.cell (World.block_lt_of_cell? w _ hx312_2)).trans hx312_2
        replace hx312_3:=(HB.out.cell (World.block_lt_of_cell? w _ hx312_3)).trans hx312_3
        replace hx312_4:=(HB.out.cell (World.block_lt_of_cell? w _ hx312_4)).trans hx312_4
        replace hx312_5:=(HB.out.cell (World.block_lt_of_cell? w _ hx312_5)).trans hx312_5
        have HR312_3:=Aside0.mk hi312_3
        have HC312_3:=Aside0.mk hl312_3
        clear hi312_3 hl312_3
        have HR312_5:=Aside0.mk hi312_5
        have HC312_5:=Aside0.mk hl312_5
        clear hi312_5 hl312_5
        replace p312:=eq_true p312
        replace q312:=eq_true q312
        refine start_ (n:=10) (S:=fun w'=>w'.cell? (ad311.add ((x5_1).toNat * 6))=some (.int .i64 ((rd_T57 l0 x5_1).f0))∧w'.cell? ⟨(ad311.add ((x5_1).toNat * 6)).block,(ad311.add ((x5_1).toNat * 6)).off + 1,none⟩ = some (.int .i64 ((rd_T57 l0 x5_1).f1))∧w'.cell? ⟨(ad311.add ((x5_1).toNat * 6)).block,(ad311.add ((x5_1).toNat * 6)).off + 2,none⟩ = some (.bool ((rd_T57 l0 x5_1).f2))∧w'.cell? ⟨(ad311.add ((x5_1).toNat * 6)).block,(ad311.add ((x5_1).toNat * 6)).off + 3,none⟩ = some (.slice A311_3 ((rd_T57 l0 x5_1).f3).length c311_3)∧w'.cell? ⟨(ad311.add ((x5_1).toNat * 6)).block,(ad311.add ((x5_1).toNat * 6)).off + 4,none⟩ = some (.bool ((rd_T57 l0 x5_1).f4))∧w'.cell? ⟨(ad311.add ((x5_1).toNat * 6)).block,(ad311.add ((x5_1).toNat * 6)).off + 5,none⟩ = some (.slice A311_5 ((rd_T57 l0 x5_1).f5).length c311_5)∧w'.cell? (ad312.add ((x5_1).toNat * 6))=some (.int .i64 ((rd_T57 l1 x5_1).f0))∧w'.cell? ⟨(ad312.add ((x5_1).toNat * 6)).block,(ad312.add ((x5_1).toNat * 6)).off + 1,none⟩ = some (.int .i64 ((rd_T57 l1 x5_1).f1))∧w'.cell? ⟨(ad312.add ((x5_1).toNat * 6)).block,(ad312.add ((x5_1).toNat * 6)).off + 2,none⟩ = some (.bool ((rd_T57 l1 x5_1).f2))∧w'.cell? ⟨(ad312.add ((x5_1).toNat * 6)).block,(ad312.add ((x5_1).toNat * 6)).off + 3,none⟩ = some (.slice A312_3 ((rd_T57 l1 x5_1).f3).length c312_3)∧w'.cell? ⟨(ad312.add ((x5_1).toNat * 6)).block,(ad312.add ((x5_1).toNat * 6)).off + 4,none⟩ = some (.bool ((rd_T57 l1 x5_1).f4))∧w'.cell? ⟨(ad312.add ((x5_1).toNat * 6)).block,(ad312.add ((x5_1).toNat * 6)).off + 5,none⟩ = some (.slice A312_5 ((rd_T57 l1 x5_1).f5).length c312_5)) (ds:=[]) #[false,false,false,false,false,false,false,false,false,false] (by kernel_rfl) rfl rfl ⟨((HB.out.cell (World.block_lt_of_cell? w _ hw311_0)).trans hw311_0),((HB.out.cell (World.block_lt_of_cell? w _ hw311_1)).trans hw311_1),((HB.out.cell (World.block_lt_of_cell? w _ hw311_2)).trans hw311_2),((HB.out.cell (World.block_lt_of_cell? w _ hw311_3)).trans hw311_3),((HB.out.cell (World.block_lt_of_cell? w _ hw311_4)).trans hw311_4),((HB.out.cell (World.block_lt_of_cell? w _ hw311_5)).trans hw311_5),((HB.out.cell (World.block_lt_of_cell? w _ hw312_0)).trans hw312_0),((HB.out.cell (World.block_lt_of_cell? w _ hw312_1)).trans hw312_1),((HB.out.cell (World.block_lt_of_cell? w _ hw312_2)).trans hw312_2),((HB.out.cell (World.block_lt_of_cell? w _ hw312_3)).trans hw312_3),((HB.out.cell (World.block_lt_of_cell? w _ hw312_4)).trans hw312_4),((HB.out.cell (World.block_lt_of_cell? w _ hw312_5)).trans hw312_5)⟩ (fun hHeld=>?_);refine with_tabW laws_sameRecords.tab6 laws_sameRecords.bits6 (fun HT_ HW_=>?_)
        generalize wr.drew=w9 at HB HR311_3 HR311_5 HR312_3 HR312_5 hx311_0 hx311_1 hx311_2 hx311_3 hx311_4 hx311_5 hx312_0 hx312_1 hx312_2 hx312_3 hx312_4 hx312_5 hHeld ⊢
        refine pure_ (i:=0) (N:=some 17) (v:=?_) (a':=?_) #[true,false,false,false,false,false,false,false,false,false] rfl rfl (any_of HT_.out (by kernel_rfl)) (fun _ _ _ h=>h) (Or.inl ⟨by rfl,?_⟩) ?_ ?_
        rotate_left
        ·intro w'
         go_simp
         with_reducible rfl
        rotate_left
        ·simp only [Act.put,List.setIfInBounds_toArray,List.set_cons_zero,List.set_cons_succ,i64_w,i32_w]
         rfl
        refine pure_ (i:=1) (N:=some 18) (v:=?_) (a':=?_) #[true,true,false,false,false,false,false,false,false,false] rfl rfl (any_of HT_.out (by kernel_rfl)) (fun _ _ _ h=>h) (Or.inl ⟨by rfl,?_⟩) ?_ ?_
        rotate_left
        ·intro w'
         go_simp
         with_reducible rfl
        rotate_left
        ·simp only [Act.put,List.setIfInBounds_toArray,List.set_cons_zero,List.set_cons_succ,i64_w,i32_w]
         rfl
        refine pure_ (i:=2) (N:=some 19) (v:=?_) (a':=?_) #[true,true,true,false,false,false,false,false,false,false] rfl rfl (any_of HT_.out (by kernel_rfl)) (fun _ _ _ h=>h) (Or.inl ⟨by rfl,?_⟩) ?_ ?_
        rotate_left
        ·intro w'
         go_simp
         with_reducible rfl
        rotate_left
        ·simp only [Act.put,List.setIfInBounds_toArray,List.set_cons_zero,List.set_cons_succ,i64_w,i32_w]
         rfl
        refine pure_ (i:=4) (N:=some 21) (v:=?_) (a':=?_) #[true,true,true,false,true,false,false,false,false,false] rfl rfl (any_of HT_.out (by kernel_rfl)) (fun _ _ _ h=>h) (Or.inl ⟨by rfl,?_⟩) ?_ ?_
        rotate_left
        ·intro w'
         go_simp
         with_reducible rfl
        rotate_left
        ·simp only [Act.put,List.setIfInBounds_toArray,List.set_cons_zero,List.set_cons_succ,i64_w,i32_w]
         rfl
        refine pure_ (i:=5) (N:=some 22) (v:=?_) (a':=?_) #[true,true,true,false,true,true,false,false,false,false] rfl rfl (any_of HT_.out (by kernel_rfl)) (fun _ _ _ h=>h) (Or.inl ⟨by rfl,?_⟩) ?_ ?_
        rotate_left
        ·intro w'
         go_simp
         with_reducible rfl
        rotate_left
        ·simp only [Act.put,List.setIfInBounds_toArray,List.set_cons_zero,List.set_cons_succ,i64_w,i32_w]
         rfl
        refine pure_ (i:=6) (N:=some 23) (v:=?_) (a':=?_) #[true,true,true,false,true,true,true,false,false,false] rfl rfl (any_of HT_.out (by kernel_rfl)) (fun _ _ _ h=>h) (Or.inl ⟨by rfl,?_⟩) ?_ ?_
        rotate_left
        ·intro w'
         go_simp
         with_reducible rfl
        rotate_left
        ·simp only [Act.put,List.setIfInBounds_toArray,List.set_cons_zero,List.set_cons_succ,i64_w,i32_w]
         rfl
        refine take_ (i:=3) (N:=some 20) (v:=?_) (a':=?_) #[true,true,true,true,true,true,true,false,false,false] rfl rfl (take_ofW HT_.out HW_.out (by kernel_rfl)) (fun _ _ _ h=>h) (Or.inl ⟨by rfl,?_⟩) hHeld ?_ ?_
        rotate_left
        ·rintro w' ⟨s0,s1,s2,s3,s4,s5,s6,s7,s8,s9,s10,s11⟩
         go_simp
         with_reducible rfl
        rotate_left
        ·simp only [Act.put,List.setIfInBounds_toArray,List.set_cons_zero,List.set_cons_succ,i64_w,i32_w]
         rfl
        refine take_ (i:=7) (N:=some 24) (v:=?_) (a':=?_) #[true,true,true,true,true,true,true,true,false,false] rfl rfl (take_ofW HT_.out HW_.out (by kernel_rfl)) (fun _ _ _ h=>h) (Or.inl ⟨by rfl,?_⟩) hHeld ?_ ?_
        rotate_left
        ·rintro w' ⟨s0,s1,s2,s3,s4,s5,s6,s7,s8,s9,s10,s11⟩
         go_simp
         with_reducible rfl
        rotate_left
        ·simp only [Act.put,List.setIfInBounds_toArray,List.set_cons_zero,List.set_cons_succ,i64_w,i32_w]
         rfl
        refine one_ (i:=8) (N:=some 25) #[true,true,true,true,true,true,true,true,true,false] rfl rfl (one_of HT_.out (by kernel_rfl)) (by decide) (fun K hK=>?_)
        refine goes_ Try.func87 (by kernel_rfl) rfl #[.agg #[.int .i64 ((rd_T57 l0 x5_1).f0),.int .i64 ((rd_T57 l0 x5_1).f1),.bool ((rd_T57 l0 x5_1).f2),.slice A311_3 ((rd_T57 l0 x5_1).f3).length c311_3,.bool ((rd_T57 l0 x5_1).f4),.slice A311_5 ((rd_T57 l0 x5_1).f5).length c311_5],.agg #[.int .i64 ((rd_T57 l1 x5_1).f0),.int .i64 ((rd_T57 l1 x5_1).f1),.bool ((rd_T57 l1 x5_1).f2),.slice A312_3 ((rd_T57 l1 x5_1).f3).length c312_3,.bool ((rd_T57 l1 x5_1).f4),.slice A312_5 ((rd_T57 l1 x5_1).f5).length c312_5]] (by rfl) rfl rfl (by (try simp only [List.map_toArray,List.map_cons,List.map_nil]);first|done|rfl|(simp only [List.length_drop,List.length_take];rfl)) ?_
        with_reducible refine (laws_sameRecord.calls k1 ((rd_T57 l0 x5_1).f0) ((rd_T57 l0 x5_1).f1) ((rd_T57 l0 x5_1).f2) _ _ ((rd_T57 l0 x5_1).f3) ((rd_T57 l0 x5_1).f4) _ _ ((rd_T57 l0 x5_1).f5) ((rd_T57 l1 x5_1).f0) ((rd_T57 l1 x5_1).f1) ((rd_T57 l1 x5_1).f2) _ _ ((rd_T57 l1 x5_1).f3) ((rd_T57 l1 x5_1).f4) _ _ ((rd_T57 l1 x5_1).f5) true _ ?side1 ?side2 ?side3 ?side4 ?side5 ?side6 ?side7 ?side8 A7.out).mono ?_
        (case side1=>repeat (first|exact (Kd.C_below HR311_3.out HB.out)|(with_reducible refine Kd.C_alloc ?_ _)|(with_reducible refine Kd.C_drewN ?_ _)|(with_reducible refine Kd.C_drew ?_)))
        (case side2=>exact HC311_3.out)
        (case side3=>repeat (first|exact (Kd.C_below HR311_5.out HB.out)|(with_reducible refine Kd.C_alloc ?_ _)|(with_reducible refine Kd.C_drewN ?_ _)|(with_reducible refine Kd.C_drew ?_)))
        (case side4=>exact HC311_5.out)
        (case side5=>repeat (first|exact (Kd.C_below HR312_3.out HB.out)|(with_reducible refine Kd.C_alloc ?_ _)|(with_reducible refine Kd.C_drewN ?_ _)|(with_reducible refine Kd.C_drew ?_)))
        (case side6=>exact HC312_3.out)
        (case side7=>repeat (first|exact (Kd.C_below HR312_5.out HB.out)|(with_reducible refine Kd.C_alloc ?_ _)|(with_reducible refine Kd.C_drewN ?_ _)|(with_reducible refine Kd.C_drew ?_)))
        (case side8=>exact HC312_5.out)
        rintro e w10 ⟨rfl,hb⟩
        refine ⟨_,rfl,?_⟩
        have n0_:=Aside0.mk (below_step (by repeat (first|(with_reducible first|exact HB.out|apply below_alloc|apply pw_below_drewN|apply below_drew1)|exact HB.out)) hb)
        clear HB
        have HB:=n0_
        clear n0_
        (try clear hb)
        (try clear hb2)
        (try clear hk)
        (try clear hi)
        refine hK.out _ _ ⟨((HB.out.cell (World.block_lt_of_cell? w _ hw311_0)).trans hw311_0),((HB.out.cell (World.block_lt_of_cell? w _ hw311_1)).trans hw311_1),((HB.out.cell (World.block_lt_of_cell? w _ hw311_2)).trans hw311_2),((HB.out.cell (World.block_lt_of_cell? w _ hw311_3)).trans hw311_3),((HB.out.cell (World.block_lt_of_cell? w _ hw311_4)).trans hw311_4),((HB.out.cell (World.block_lt_of_cell? w _ hw311_5)).trans hw311_5),((HB.out.cell (World.block_lt_of_cell? w _ hw312_0)).trans hw312_0),((HB.out.cell (World.block_lt_of_cell? w _ hw312_1)).trans hw312_1),((HB.out.cell (World.block_lt_of_cell? w _ hw312_2)).trans hw312_2),((HB.out.cell (World.block_lt_of_cell? w _ hw312_3)).trans hw312_3),((HB.out.cell (World.block_lt_of_cell? w _ hw312_4)).trans hw312_4),((HB.out.cell (World.block_lt_of_cell? w _ hw312_5)).trans hw312_5)⟩ (fun hHeld=>?_)
        clear hK K
        refine norm_ (a':=?_) ?_ ?_
        rotate_left
        ·show Act.put _ (some 25) _=_
         simp only [Act.put,List.setIfInBounds_toArray,List.set_cons_zero,List.set_cons_succ,i64_w,i32_w]
         rfl
        refine pure_ (i:=9) (N:=some 26) (v:=?_) (a':=?_) #[true,true,true,true,true,true,true,true,true,true] rfl rfl (any_of HT_.out (by kernel_rfl)) (fun _ _ _ h=>h) (Or.inl ⟨by rfl,?_⟩) ?_ ?_
        rotate_left
        ·intro w'
         go_simp
         with_reducible rfl
        rotate_left
        ·simp only [Act.put,List.setIfInBounds_toArray,List.set_cons_zero,List.set_cons_succ,i64_w,i32_w]
         rfl
        refine done_ (done_of HT_.out (by kernel_rfl)) ?_
        try go_wp2
        go_roundg k1
        case measure=>have:=HK1.out;omega
        case rel=>exact ⟨(wrap64 (x5_1 + 1)),(by first|rfl|(simp;done)|(simp [*];done)),H',⟨by have:=HK1.out;omega⟩,⟨by repeat (first|(with_reducible first|exact HB.out|apply below_alloc|apply pw_below_drewN|apply below_drew1)|exact HB.out)⟩⟩
       ·replace c8:=Bool.eq_false_iff.mpr c8
        subst c8
        have H1 : (some false)=some r:=by rw [if_neg (show ¬ (false=true) by decide)] at H;exact H
        clear H
        have H:=H1
        clear H1
        obtain rfl:=Option.some.inj H
        try go_wp2
        have n0_:=Aside0.mk (below_drew1 HB.out)
        clear HB
        have HB:=n0_
        clear n0_
        have p311 : 0 ≤ (x5_1 : Int):=of_decide_eq_true (by first|(with_reducible assumption)|assumption)
        have q311 : x5_1 < (l0.length : Int):=of_decide_eq_true (by first|(with_reducible assumption)|assumption)
        obtain ⟨ad311,A311_3,c311_3,A311_5,c311_5,e311,hx311_0,hx311_1,hx311_2,hx311_3,hx311_4,hx311_5,hl311_3,hi311_3,hl311_5,hi311_5⟩:=at_T57 HR0.out x5_1 p311 q311
        have hw311_5:=hx311_5
        have hw311_4:=hx311_4
        have hw311_3:=hx311_3
        have hw311_2:=hx311_2
        have hw311_1:=hx311_1
        have hw311_0:=hx311_0
        cases e311
        replace hx311_0:=(HB.out.cell (World.block_lt_of_cell? w _ hx311_0)).trans hx311_0
        replace hx311_1:=(HB.out.cell (World.block_lt_of_cell? w _ hx311_1)).trans hx311_1
        replace hx311_2:=(HB.out.cell (World.block_lt_of_cell? w _ hx311_2)).trans hx311_2
        replace hx311_3:=(HB.out.cell (World.block_lt_of_cell? w _ hx311_3)).trans hx311_3
        replace hx311_4:=(HB.out.cell (World.block_lt_of_cell? w _ hx311_4)).trans hx311_4
        replace hx311_5:=(HB.out.cell (World.block_lt_of_cell? w _ hx311_5)).trans hx311_5
        have HR311_3:=Aside0.mk hi311_3
        have HC311_3:=Aside0.mk hl311_3
        clear hi311_3 hl311_3
        have HR311_5:=Aside0.mk hi311_5
        have HC311_5:=Aside0.mk hl311_5
        clear hi311_5 hl311_5
        replace p311:=eq_true p311
        replace q311:=eq_true q311
        have p312 : 0 ≤ (x5_1 : Int):=of_decide_eq_true (by first|(with_reducible assumption)|assumption)
        have q312 : x5_1 < (l1.length : Int):=of_decide_eq_true (by first|(with_reducible assumption)|assumption)
        obtain ⟨ad312,A312_3,c312_3,A312_5,c312_5,e312,hx312_0,hx312_1,hx312_2,hx312_3,hx312_4,hx312_5,hl312_3,hi312_3,hl312_5,hi312_5⟩:=at_T57 HR1.out x5_1 p312 q312
        have hw312_5:=hx312_5
        have hw312_4:=hx312_4
        have hw312_3:=hx312_3
        have hw312_2:=hx312_2
        have hw312_1:=hx312_1
        have hw312_0:=hx312_0
        cases e312
        replace hx312_0:=(HB.out.cell (World.block_lt_of_cell? w _ hx312_0)).trans hx312_0
        replace hx312_1:=(HB.out.cell (World.block_lt_of_cell? w _ hx312_1)).trans hx312_1
        replace hx312_2:=(HB.out.cell (World.block_lt_of_cell? w _ hx312_2)).trans hx312_2
        replace hx312_3:=(HB.out.cell (World.block_lt_of_cell? w _ hx312_3)).trans hx312_3
        replace hx312_4:=(HB.out.cell (World.block_lt_of_cell? w _ hx312_4)).trans hx312_4
        replace hx312_5:=(HB.out.cell (World.block_lt_of_cell? w _ hx312_5)).trans hx312_5
        have HR312_3:=Aside0.mk hi312_3
        have HC312_3:=Aside0.mk hl312_3
        clear hi312_3 hl312_3
        have HR312_5:=Aside0.mk hi312_5
        have HC312_5:=Aside0.mk hl312_5
        clear hi312_5 hl312_5
        replace p312:=eq_true p312
        replace q312:=eq_true q312
        refine start_ (n:=10) (S:=fun w'=>w'.cell? (ad311.add ((x5_1).toNat * 6))=some (.int .i64 ((rd_T57 l0 x5_1).f0))∧w'.cell? ⟨(ad311.add ((x5_1).toNat * 6)).block,(ad311.add ((x5_1).toNat * 6)).off + 1,none⟩ = some (.int .i64 ((rd_T57 l0 x5_1).f1))∧w'.cell? ⟨(ad311.add ((x5_1).toNat * 6)).block,(ad311.add ((x5_1).toNat * 6)).off + 2,none⟩ = some (.bool ((rd_T57 l0 x5_1).f2))∧w'.cell? ⟨(ad311.add ((x5_1).toNat * 6)).block,(ad311.add ((x5_1).toNat * 6)).off + 3,none⟩ = some (.slice A311_3 ((rd_T57 l0 x5_1).f3).length c311_3)∧w'.cell? ⟨(ad311.add ((x5_1).toNat * 6)).block,(ad311.add ((x5_1).toNat * 6)).off + 4,none⟩ = some (.bool ((rd_T57 l0 x5_1).f4))∧w'.cell? ⟨(ad311.add ((x5_1).toNat * 6)).block,(ad311.add ((x5_1).toNat * 6)).off + 5,none⟩ = some (.slice A311_5 ((rd_T57 l0 x5_1).f5).length c311_5)∧w'.cell? (ad312.add ((x5_1).toNat * 6))=some (.int .i64 ((rd_T57 l1 x5_1).f0))∧w'.cell? ⟨(ad312.add ((x5_1).toNat * 6)).block,(ad312.add ((x5_1).toNat * 6)).off + 1,none⟩ = some (.int .i64 ((rd_T57 l1 x5_1).f1))∧w'.cell? ⟨(ad312.add ((x5_1).toNat * 6)).block,(ad312.add ((x5_1).toNat * 6)).off + 2,none⟩ = some (.bool ((rd_T57 l1 x5_1).f2))∧w'.cell? ⟨(ad312.add ((x5_1).toNat * 6)).block,(ad312.add ((x5_1).toNat * 6)).off + 3,none⟩ = some (.slice A312_3 ((rd_T57 l1 x5_1).f3).length c312_3)∧w'.cell? ⟨(ad312.add ((x5_1).toNat * 6)).block,(ad312.add ((x5_1).toNat * 6)).off + 4,none⟩ = some (.bool ((rd_T57 l1 x5_1).f4))∧w'.cell? ⟨(ad312.add ((x5_1).toNat * 6)).block,(ad312.add ((x5_1).toNat * 6)).off + 5,none⟩ = some (.slice A312_5 ((rd_T57 l1 x5_1).f5).length c312_5)) (ds:=[]) #[false,false,false,false,false,false,false,false,false,false] (by kernel_rfl) rfl rfl ⟨((HB.out.cell (World.block_lt_of_cell? w _ hw311_0)).trans hw311_0),((HB.out.cell (World.block_lt_of_cell? w _ hw311_1)).trans hw311_1),((HB.out.cell (World.block_lt_of_cell? w _ hw311_2)).trans hw311_2),((HB.out.cell (World.block_lt_of_cell? w _ hw311_3)).trans hw311_3),((HB.out.cell (World.block_lt_of_cell? w _ hw311_4)).trans hw311_4),((HB.out.cell (World.block_lt_of_cell? w _ hw311_5)).trans hw311_5),((HB.out.cell (World.block_lt_of_cell? w _ hw312_0)).trans hw312_0),((HB.out.cell (World.block_lt_of_cell? w _ hw312_1)).trans hw312_1),((HB.out.cell (World.block_lt_of_cell? w _ hw312_2)).trans hw312_2),((HB.out.cell (World.block_lt_of_cell? w _ hw312_3)).trans hw312_3),((HB.out.cell (World.block_lt_of_cell? w _ hw312_4)).trans hw312_4),((HB.out.cell (World.block_lt_of_cell? w _ hw312_5)).trans hw312_5)⟩ (fun hHeld=>?_);refine with_tabW laws_sameRecords.tab6 laws_sameRecords.bits6 (fun HT_ HW_=>?_)
        generalize wr.drew=w11 at HB HR311_3 HR311_5 HR312_3 HR312_5 hx311_0 hx311_1 hx311_2 hx311_3 hx311_4 hx311_5 hx312_0 hx312_1 hx312_2 hx312_3 hx312_4 hx312_5 hHeld ⊢
        refine pure_ (i:=0) (N:=some 17) (v:=?_) (a':=?_) #[true,false,false,false,false,false,false,false,false,false] rfl rfl (any_of HT_.out (by kernel_rfl)) (fun _ _ _ h=>h) (Or.inl ⟨by rfl,?_⟩) ?_ ?_
        rotate_left
        ·intro w'
         go_simp
         with_reducible rfl
        rotate_left
        ·simp only [Act.put,List.setIfInBounds_toArray,List.set_cons_zero,List.set_cons_succ,i64_w,i32_w]
         rfl
        refine pure_ (i:=1) (N:=some 18) (v:=?_) (a':=?_) #[true,true,false,false,false,false,false,false,false,false] rfl rfl (any_of HT_.out (by kernel_rfl)) (fun _ _ _ h=>h) (Or.inl ⟨by rfl,?_⟩) ?_ ?_
        rotate_left
        ·intro w'
         go_simp
         with_reducible rfl
        rotate_left
        ·simp only [Act.put,List.setIfInBounds_toArray,List.set_cons_zero,List.set_cons_succ,i64_w,i32_w]
         rfl
        refine pure_ (i:=2) (N:=some 19) (v:=?_) (a':=?_) #[true,true,true,false,false,false,false,false,false,false] rfl rfl (any_of HT_.out (by kernel_rfl)) (fun _ _ _ h=>h) (Or.inl ⟨by rfl,?_⟩) ?_ ?_
        rotate_left
        ·intro w'
         go_simp
         with_reducible rfl
        rotate_left
        ·simp only [Act.put,List.setIfInBounds_toArray,List.set_cons_zero,List.set_cons_succ,i64_w,i32_w]
         rfl
        refine pure_ (i:=4) (N:=some 21) (v:=?_) (a':=?_) #[true,true,true,false,true,false,false,false,false,false] rfl rfl (any_of HT_.out (by kernel_rfl)) (fun _ _ _ h=>h) (Or.inl ⟨by rfl,?_⟩) ?_ ?_
        rotate_left
        ·intro w'
         go_simp
         with_reducible rfl
        rotate_left
        ·simp only [Act.put,List.setIfInBounds_toArray,List.set_cons_zero,List.set_cons_succ,i64_w,i32_w]
         rfl
        refine pure_ (i:=5) (N:=some 22) (v:=?_) (a':=?_) #[true,true,true,false,true,true,false,false,false,false] rfl rfl (any_of HT_.out (by kernel_rfl)) (fun _ _ _ h=>h) (Or.inl ⟨by rfl,?_⟩) ?_ ?_
        rotate_left
        ·intro w'
         go_simp
         with_reducible rfl
        rotate_left
        ·simp only [Act.put,List.setIfInBounds_toArray,List.set_cons_zero,List.set_cons_succ,i64_w,i32_w]
         rfl
        refine pure_ (i:=6) (N:=some 23) (v:=?_) (a':=?_) #[true,true,true,false,true,true,true,false,false,false] rfl rfl (any_of HT_.out (by kernel_rfl)) (fun _ _ _ h=>h) (Or.inl ⟨by rfl,?_⟩) ?_ ?_
        rotate_left
        ·intro w'
         go_simp
         with_reducible rfl
        rotate_left
        ·simp only [Act.put,List.setIfInBounds_toArray,List.set_cons_zero,List.set_cons_succ,i64_w,i32_w]
         rfl
        refine take_ (i:=3) (N:=some 20) (v:=?_) (a':=?_) #[true,true,true,true,true,true,true,false,false,false] rfl rfl (take_ofW HT_.out HW_.out (by kernel_rfl)) (fun _ _ _ h=>h) (Or.inl ⟨by rfl,?_⟩) hHeld ?_ ?_
        rotate_left
        ·rintro w' ⟨s0,s1,s2,s3,s4,s5,s6,s7,s8,s9,s10,s11⟩
         go_simp
         with_reducible rfl
        rotate_left
        ·simp only [Act.put,List.setIfInBounds_toArray,List.set_cons_zero,List.set_cons_succ,i64_w,i32_w]
         rfl
        refine take_ (i:=7) (N:=some 24) (v:=?_) (a':=?_) #[true,true,true,true,true,true,true,true,false,false] rfl rfl (take_ofW HT_.out HW_.out (by kernel_rfl)) (fun _ _ _ h=>h) (Or.inl ⟨by rfl,?_⟩) hHeld ?_ ?_
        rotate_left
        ·rintro w' ⟨s0,s1,s2,s3,s4,s5,s6,s7,s8,s9,s10,s11⟩
         go_simp
         with_reducible rfl
        rotate_left
        ·simp only [Act.put,List.setIfInBounds_toArray,List.set_cons_zero,List.set_cons_succ,i64_w,i32_w]
         rfl
        refine one_ (i:=8) (N:=some 25) #[true,true,true,true,true,true,true,true,true,false] rfl rfl (one_of HT_.out (by kernel_rfl)) (by decide) (fun K hK=>?_)
        refine goes_ Try.func87 (by kernel_rfl) rfl #[.agg #[.int .i64 ((rd_T57 l0 x5_1).f0),.int .i64 ((rd_T57 l0 x5_1).f1),.bool ((rd_T57 l0 x5_1).f2),.slice A311_3 ((rd_T57 l0 x5_1).f3).length c311_3,.bool ((rd_T57 l0 x5_1).f4),.slice A311_5 ((rd_T57 l0 x5_1).f5).length c311_5],.agg #[.int .i64 ((rd_T57 l1 x5_1).f0),.int .i64 ((rd_T57 l1 x5_1).f1),.bool ((rd_T57 l1 x5_1).f2),.slice A312_3 ((rd_T57 l1 x5_1).f3).length c312_3,.bool ((rd_T57 l1 x5_1).f4),.slice A312_5 ((rd_T57 l1 x5_1).f5).length c312_5]] (by rfl) rfl rfl (by (try simp only [List.map_toArray,List.map_cons,List.map_nil]);first|done|rfl|(simp only [List.length_drop,List.length_take];rfl)) ?_
        with_reducible refine (laws_sameRecord.calls k1 ((rd_T57 l0 x5_1).f0) ((rd_T57 l0 x5_1).f1) ((rd_T57 l0 x5_1).f2) _ _ ((rd_T57 l0 x5_1).f3) ((rd_T57 l0 x5_1).f4) _ _ ((rd_T57 l0 x5_1).f5) ((rd_T57 l1 x5_1).f0) ((rd_T57 l1 x5_1).f1) ((rd_T57 l1 x5_1).f2) _ _ ((rd_T57 l1 x5_1).f3) ((rd_T57 l1 x5_1).f4) _ _ ((rd_T57 l1 x5_1).f5) false _ ?side1 ?side2 ?side3 ?side4 ?side5 ?side6 ?side7 ?side8 A7.out).mono ?_
        (case side1=>repeat (first|exact (Kd.C_below HR311_3.out HB.out)|(with_reducible refine Kd.C_alloc ?_ _)|(with_reducible refine Kd.C_drewN ?_ _)|(with_reducible refine Kd.C_drew ?_)))
        (case side2=>exact HC311_3.out)
        (case side3=>repeat (first|exact (Kd.C_below HR311_5.out HB.out)|(with_reducible refine Kd.C_alloc ?_ _)|(with_reducible refine Kd.C_drewN ?_ _)|(with_reducible refine Kd.C_drew ?_)))
        (case side4=>exact HC311_5.out)
        (case side5=>repeat (first|exact (Kd.C_below HR312_3.out HB.out)|(with_reducible refine Kd.C_alloc ?_ _)|(with_reducible refine Kd.C_drewN ?_ _)|(with_reducible refine Kd.C_drew ?_)))
        (case side6=>exact HC312_3.out)
        (case side7=>repeat (first|exact (Kd.C_below HR312_5.out HB.out)|(with_reducible refine Kd.C_alloc ?_ _)|(with_reducible refine Kd.C_drewN ?_ _)|(with_reducible refine Kd.C_drew ?_)))
        (case side8=>exact HC312_5.out)
        rintro e w12 ⟨rfl,hb⟩
        refine ⟨_,rfl,?_⟩
        have n0_:=Aside0.mk (below_step (by repeat (first|(with_reducible first|exact HB.out|apply below_alloc|apply pw_below_drewN|apply below_drew1)|exact HB.out)) hb)
        clear HB
        have HB:=n0_
        clear n0_
        (try clear hb)
        (try clear hb2)
        (try clear hk)
        (try clear hi)
        refine hK.out _ _ ⟨((HB.out.cell (World.block_lt_of_cell? w _ hw311_0)).trans hw311_0),((HB.out.cell (World.block_lt_of_cell? w _ hw311_1)).trans hw311_1),((HB.out.cell (World.block_lt_of_cell? w _ hw311_2)).trans hw311_2),((HB.out.cell (World.block_lt_of_cell? w _ hw311_3)).trans hw311_3),((HB.out.cell (World.block_lt_of_cell? w _ hw311_4)).trans hw311_4),((HB.out.cell (World.block_lt_of_cell? w _ hw311_5)).trans hw311_5),((HB.out.cell (World.block_lt_of_cell? w _ hw312_0)).trans hw312_0),((HB.out.cell (World.block_lt_of_cell? w _ hw312_1)).trans hw312_1),((HB.out.cell (World.block_lt_of_cell? w _ hw312_2)).trans hw312_2),((HB.out.cell (World.block_lt_of_cell? w _ hw312_3)).trans hw312_3),((HB.out.cell (World.block_lt_of_cell? w _ hw312_4)).trans hw312_4),((HB.out.cell (World.block_lt_of_cell? w _ hw312_5)).trans hw312_5)⟩ (fun hHeld=>?_)
        clear hK K
        refine norm_ (a':=?_) ?_ ?_
        rotate_left
        ·show Act.put _ (some 25) _=_
         simp only [Act.put,List.setIfInBounds_toArray,List.set_cons_zero,List.set_cons_succ,i64_w,i32_w]
         rfl
        refine pure_ (i:=9) (N:=some 26) (v:=?_) (a':=?_) #[true,true,true,true,true,true,true,true,true,true] rfl rfl (any_of HT_.out (by kernel_rfl)) (fun _ _ _ h=>h) (Or.inl ⟨by rfl,?_⟩) ?_ ?_
        rotate_left
        ·intro w'
         go_simp
         with_reducible rfl
        rotate_left
        ·simp only [Act.put,List.setIfInBounds_toArray,List.set_cons_zero,List.set_cons_succ,i64_w,i32_w]
         rfl
        refine done_ (done_of HT_.out (by kernel_rfl)) ?_
        try go_wp2
        go_ret
        exact ⟨by first|rfl|(simp [errW_none,errW_some] <;> rfl)|(simp [*,errW_none,errW_some] <;> rfl),by repeat (first|(with_reducible first|exact HB.out|apply below_alloc|apply pw_below_drewN|apply below_drew1)|exact HB.out)⟩
      ·rw [if_neg c6] at H
       exact absurd H (by simp)
     ·rw [if_neg c5] at H
      exact absurd H (by simp)
    ·rw [if_neg c4] at H
     have c4b0 : decide (x5_1 < (l0.length : Int))=false:=decide_eq_false c4
     clear c4
     obtain rfl:=Option.some.inj H
     go_wp2
     go_ret
     exact ⟨by first|rfl|(simp [errW_none,errW_some] <;> rfl)|(simp [*,errW_none,errW_some] <;> rfl),by repeat (first|(with_reducible first|exact HB.out|apply below_alloc|apply pw_below_drewN|apply below_drew1)|exact HB.out)⟩
 ·rw [if_neg c3] at H
  have c3b0 : ((l0.length : Int) == (l1.length : Int))=false:=beq_eq_false_iff_ne.mpr c3
  have c3b1 : ((l0.length : Int) != (l1.length : Int))=true:=bne_iff_ne.mpr c3
  have c3b2 : (l0.length == l1.length)=false:=by first|simpa using c3|(simp at c3 ⊢;omega)
  obtain rfl:=Option.some.inj H
  go_enter Try.func69,Try.ntmps69
  go_wp2
  go_ret
  exact ⟨by first|rfl|(simp [errW_none,errW_some] <;> rfl)|(simp [*,errW_none,errW_some] <;> rfl),by repeat (first|(with_reducible first|exact HB.out|apply below_alloc|apply pw_below_drewN|apply below_drew1)|exact HB.out)⟩

/-! ### laws_sameBatch: function 37 -/
def laws_sameBatch.f (k : Nat) (a0_0 : Bool) (a0_1 : Bool) (a0_2 : Int) (a0_3 : Int) (a0_4 : Int) (l0_5 : List (S57)) (a1_0 : Bool) (a1_1 : Bool) (a1_2 : Int) (a1_3 : Int) (a1_4 : Int) (l1_5 : List (S57)) : Option (Bool):=if (a0_0 == a1_0)=true then (if (a0_1 == a1_1)=true then (if a0_2=a1_2 then (if a0_3=a1_3 then (if a0_4=a1_4 then ((laws_sameRecords.f k l0_5 l1_5).bind fun t316=>(some t316)) else (some false)) else (some false)) else (some false)) else (some false)) else (some false)
theorem laws_sameBatch.mono : ∀ a0 a1 a2 a3 a4 a5 a6 a7 a8 a9 a10 a11 k,LeO (laws_sameBatch.f k a0 a1 a2 a3 a4 a5 a6 a7 a8 a9 a10 a11) (laws_sameBatch.f (k + 1) a0 a1 a2 a3 a4 a5 a6 a7 a8 a9 a10 a11):=by
 intro a0 a1 a2 a3 a4 a5 a6 a7 a8 a9 a10 a11 k
 unfold laws_sameBatch.f
 repeat' first
   | (with_reducible exact laws_sameRecords.mono _ _ _)
   | (with_reducible exact LeO.refl _)
   | (with_reducible exact LeO.none _)
   | (with_reducible refine LeO.ite ?_ ?_)
   | (with_reducible refine LeO.bind ?_ (fun _=>?_))
   | exact laws_sameRecords.mono _ _ _
   | exact LeO.none _
   | refine LeO.ite ?_ ?_
   | refine LeO.bind ?_ (fun _=>?_)
set_option maxHeartbeats 8000000 in
set_option maxRecDepth 100000 in
theorem laws_sameBatch.calls (k : Nat) (a0_0 : Bool) (a0_1 : Bool) (a0_2 : Int) (a0_3 : Int) (a0_4 : Int) (A0_5 : Option Addr) (c0_5 : Nat) (l0_5 : List (S57)) (a1_0 : Bool) (a1_1 : Bool) (a1_2 : Int) (a1_3 : Int) (a1_4 : Int) (A1_5 : Option Addr) (c1_5 : Nat) (l1_5 : List (S57)) (r : Bool) (w : World) (hr0_5 : Kd.C k57 w A0_5 l0_5.length l0_5) (hc0_5 : l0_5.length ≤ c0_5) (hr1_5 : Kd.C k57 w A1_5 l1_5.length l1_5) (hc1_5 : l1_5.length ≤ c1_5) (h : laws_sameBatch.f k a0_0 a0_1 a0_2 a0_3 a0_4 l0_5 a1_0 a1_1 a1_2 a1_3 a1_4 l1_5=some r) :
  Calls Try.prog 37 #[.agg #[.bool a0_0,.bool a0_1,.int .i64 a0_2,.int .i64 a0_3,.int .i64 a0_4,.slice A0_5 l0_5.length c0_5],.agg #[.bool a1_0,.bool a1_1,.int .i64 a1_2,.int .i64 a1_3,.int .i64 a1_4,.slice A1_5 l1_5.length c1_5]] w fun e w'=>e = .returned (.bool r)∧Below w.heap.size w w':=by
 have hu39:=Try.underlying39
 have HR0_5:=Aside0.mk hr0_5
 have HC0_5:=Aside0.mk hc0_5
 clear hr0_5 hc0_5
 have HR1_5:=Aside0.mk hr1_5
 have HC1_5:=Aside0.mk hc1_5
 clear hr1_5 hc1_5
 have HB:=Aside0.mk (Below.refl w.heap.size w)
 have H : (if (a0_0 == a1_0)=true then (if (a0_1 == a1_1)=true then (if a0_2=a1_2 then (if a0_3=a1_3 then (if a0_4=a1_4 then ((laws_sameRecords.f k l0_5 l1_5).bind fun t316=>(some t316)) else (some false)) else (some false)) else (some false)) else (some false)) else (some false))=some r:=h
 clear h
 by_cases c3 : (a0_0 == a1_0)=true
 ·rw [if_pos c3] at H
  have c3b0 : (a0_0 == a1_0)=true:=c3
  (try (have c3b1 : decide (a0_0=a1_0)=true:=by simpa using c3))
  (try (have c3b2 : (a0_0 == a1_0)=true:=by simpa using c3))
  clear c3
  by_cases c4 : (a0_1 == a1_1)=true
  ·rw [if_pos c4] at H
   have c4b0 : (a0_1 == a1_1)=true:=c4
   (try (have c4b1 : decide (a0_1=a1_1)=true:=by simpa using c4))
   (try (have c4b2 : (a0_1 == a1_1)=true:=by simpa using c4))
   clear c4
   by_cases c5 : a0_2=a1_2
   ·rw [if_pos c5] at H
    have c5b0 : (a0_2 == a1_2)=true:=beq_iff_eq.mpr c5
    have c5b1 : (a0_2 != a1_2)=false:=bne_eq_false_iff_eq.mpr c5
    clear c5
    by_cases c6 : a0_3=a1_3
    ·rw [if_pos c6] at H
     have c6b0 : (a0_3 == a1_3)=true:=beq_iff_eq.mpr c6
     have c6b1 : (a0_3 != a1_3)=false:=bne_eq_false_iff_eq.mpr c6
     clear c6
     by_cases c7 : a0_4=a1_4
     ·rw [if_pos c7] at H
      have c7b0 : (a0_4 == a1_4)=true:=beq_iff_eq.mpr c7
      have c7b1 : (a0_4 != a1_4)=false:=bne_eq_false_iff_eq.mpr c7
      clear c7
      replace H:=Option.bind_eq_some_iff.mp H
      obtain ⟨t316,A80,H⟩:=H
      replace H : (some t316)=some r:=H
      have A8:=Aside0.mk A80
      clear A80
      obtain rfl:=Option.some.inj H
      go_enter Try.func37,Try.ntmps37
      go_wp2_with (first|((with_reducible refine gate_dst (N:=2) rfl ?_);refine box_event ?hg (N:=2) ?hd (cs:=#[.bool a0_0,.bool a0_1,.int .i64 a0_2,.int .i64 a0_3,.int .i64 a0_4,.slice A0_5 l0_5.length c0_5]) (t:=39) ?hr ?_;(case hd=>rfl);(case hg=>rfl);(case hr=>first|(go_simp;done)|(go_simp;rfl));intro gb314 hg w9 hbox hb;have n0_:=Aside0.mk (below_step (by repeat (first|(with_reducible first|exact HB.out|apply below_alloc|apply pw_below_drewN|apply below_drew1)|exact HB.out)) hb);have n1_:=Aside0.mk (hbox);have n2_:=Aside0.mk ((by rw [hg];exact (below_size (by repeat (first|(with_reducible first|exact HB.out|apply below_alloc|apply pw_below_drewN|apply below_drew1)|exact HB.out))) : w.heap.size ≤ gb314));have n3_:=Aside0.mk ((by rw [hg];exact (below_size (by repeat (first|(with_reducible first|exact HB.out|apply below_alloc|apply pw_below_drewN|apply below_drew1)|exact HB.out))) : w.heap.size ≤ gb314));clear HB;have HB:=n0_;have BK314:=n1_;have GW314:=n2_;have GE314:=n3_;clear n0_ n1_ n2_ n3_;clear hb hbox hg)|((with_reducible refine gate_dst (N:=3) rfl ?_);refine box_event ?hg (N:=3) ?hd (cs:=#[.bool a1_0,.bool a1_1,.int .i64 a1_2,.int .i64 a1_3,.int .i64 a1_4,.slice A1_5 l1_5.length c1_5]) (t:=39) ?hr ?_;(case hd=>rfl);(case hg=>rfl);(case hr=>first|(go_simp;done)|(go_simp;rfl));intro gb315 hg w10 hbox hb;have n0_:=Aside0.mk (blk_below (g:=gb314) (o:=.cells #[.bool a0_0,.bool a0_1,.int .i64 a0_2,.int .i64 a0_3,.int .i64 a0_4,.slice A0_5 l0_5.length c0_5] 39 (0,0)) (by (with_reducible repeat (first|refine blk_drewN ?_ _|refine blk_drew ?_|refine blk_alloc ?_ _));exact BK314.out) hb);have n1_:=Aside0.mk (below_step (by repeat (first|(with_reducible first|exact HB.out|apply below_alloc|apply pw_below_drewN|apply below_drew1|refine below_set ?_ GE314.out)|exact HB.out)) hb);have n2_:=Aside0.mk (hbox);have n3_:=Aside0.mk ((by rw [hg];exact (below_size (by repeat (first|(with_reducible first|exact HB.out|apply below_alloc|apply pw_below_drewN|apply below_drew1|refine below_set ?_ GE314.out)|exact HB.out))) : w.heap.size ≤ gb315));have n4_:=Aside0.mk ((by rw [hg];exact (below_size (by repeat (first|(with_reducible first|exact HB.out|apply below_alloc|apply pw_below_drewN|apply below_drew1|refine below_set ?_ GE314.out)|exact HB.out))) : w.heap.size ≤ gb315));have n5_:=Aside0.mk ((by rw [hg];exact Nat.ne_of_lt (blk_lt (g:=gb314) (o:=.cells #[.bool a0_0,.bool a0_1,.int .i64 a0_2,.int .i64 a0_3,.int .i64 a0_4,.slice A0_5 l0_5.length c0_5] 39 (0,0)) (by (with_reducible repeat (first|refine blk_drewN ?_ _|refine blk_drew ?_|refine blk_alloc ?_ _));exact BK314.out)) : gb314 ≠ gb315));have n6_:=Aside0.mk ((by rw [hg];exact Nat.ne_of_gt (blk_lt (g:=gb314) (o:=.cells #[.bool a0_0,.bool a0_1,.int .i64 a0_2,.int .i64 a0_3,.int .i64 a0_4,.slice A0_5 l0_5.length c0_5] 39 (0,0)) (by (with_reducible repeat (first|refine blk_drewN ?_ _|refine blk_drew ?_|refine blk_alloc ?_ _));exact BK314.out)) : gb315 ≠ gb314));clear BK314;clear HB;have BK314:=n0_;have HB:=n1_;have BK315:=n2_;have GW315:=n3_;have GE315:=n4_;have NB314_315:=n5_;have NB315_314:=n6_;clear n0_ n1_ n2_ n3_ n4_ n5_ n6_;clear hb hbox hg;have hnb11:=NB314_315.out;have hnc11:=NB315_314.out;have hcz12_0 : w10.cell? ⟨gb314,0,none⟩ = some (.bool a0_0):=(blk_cell BK314.out 0).trans rfl;have hcz12_1 : w10.cell? ⟨gb314,1,none⟩ = some (.bool a0_1):=(blk_cell BK314.out 1).trans rfl;have hcz12_2 : w10.cell? ⟨gb314,2,none⟩ = some (.int .i64 a0_2):=(blk_cell BK314.out 2).trans rfl;have hcz12_3 : w10.cell? ⟨gb314,3,none⟩ = some (.int .i64 a0_3):=(blk_cell BK314.out 3).trans rfl;have hcz12_4 : w10.cell? ⟨gb314,4,none⟩ = some (.int .i64 a0_4):=(blk_cell BK314.out 4).trans rfl;have hcz12_5 : w10.cell? ⟨gb314,5,none⟩ = some (.slice A0_5 l0_5.length c0_5):=(blk_cell BK314.out 5).trans rfl;have hfz12_0:=blk_frozen BK314.out 0;have hfz12_1:=blk_frozen BK314.out 1;have hfz12_2:=blk_frozen BK314.out 2;have hfz12_3:=blk_frozen BK314.out 3;have hfz12_4:=blk_frozen BK314.out 4;have hfz12_5:=blk_frozen BK314.out 5;have hcz13_0 : w10.cell? ⟨gb315,0,none⟩ = some (.bool a1_0):=(blk_cell BK315.out 0).trans rfl;have hcz13_1 : w10.cell? ⟨gb315,1,none⟩ = some (.bool a1_1):=(blk_cell BK315.out 1).trans rfl;have hcz13_2 : w10.cell? ⟨gb315,2,none⟩ = some (.int .i64 a1_2):=(blk_cell BK315.out 2).trans rfl;have hcz13_3 : w10.cell? ⟨gb315,3,none⟩ = some (.int .i64 a1_3):=(blk_cell BK315.out 3).trans rfl;have hcz13_4 : w10.cell? ⟨gb315,4,none⟩ = some (.int .i64 a1_4):=(blk_cell BK315.out 4).trans rfl;have hcz13_5 : w10.cell? ⟨gb315,5,none⟩ = some (.slice A1_5 l1_5.length c1_5):=(blk_cell BK315.out 5).trans rfl;have hfz13_0:=blk_frozen BK315.out 0;have hfz13_1:=blk_frozen BK315.out 1;have hfz13_2:=blk_frozen BK315.out 2;have hfz13_3:=blk_frozen BK315.out 3;have hfz13_4:=blk_frozen BK315.out 4;have hfz13_5:=blk_frozen BK315.out 5)|(go_at_call 69;(with_reducible refine (laws_sameRecords.calls k _ _ l0_5 _ _ l1_5 t316 _ ?side1 ?side2 ?side3 ?side4 A8.out).mono ?_);(case side1=>repeat (first|exact (Kd.C_below HR0_5.out HB.out)|(with_reducible refine Kd.C_alloc ?_ _)|(with_reducible refine Kd.C_drewN ?_ _)|(with_reducible refine Kd.C_drew ?_)));(case side2=>exact HC0_5.out);(case side3=>repeat (first|exact (Kd.C_below HR1_5.out HB.out)|(with_reducible refine Kd.C_alloc ?_ _)|(with_reducible refine Kd.C_drewN ?_ _)|(with_reducible refine Kd.C_drew ?_)));(case side4=>exact HC1_5.out);rintro e w14 ⟨rfl,hb⟩;have n0_:=Aside0.mk (blk_below (g:=gb314) (o:=.cells #[.bool a0_0,.bool a0_1,.int .i64 a0_2,.int .i64 a0_3,.int .i64 a0_4,.slice A0_5 l0_5.length c0_5] 39 (0,0)) (by (with_reducible repeat (first|refine blk_drewN ?_ _|refine blk_drew ?_|refine blk_alloc ?_ _));exact BK314.out) hb);have n1_:=Aside0.mk (blk_below (g:=gb315) (o:=.cells #[.bool a1_0,.bool a1_1,.int .i64 a1_2,.int .i64 a1_3,.int .i64 a1_4,.slice A1_5 l1_5.length c1_5] 39 (0,0)) (by (with_reducible repeat (first|refine blk_drewN ?_ _|refine blk_drew ?_|refine blk_alloc ?_ _));exact BK315.out) hb);have n2_:=Aside0.mk (below_step (by repeat (first|(with_reducible first|exact HB.out|apply below_alloc|apply pw_below_drewN|apply below_drew1|refine below_set ?_ GE314.out|refine below_set ?_ GE315.out)|exact HB.out)) hb);clear BK314;clear BK315;clear HB;have BK314:=n0_;have BK315:=n1_;have HB:=n2_;clear n0_ n1_ n2_;(try clear hb);(try clear hb2);(try clear hk);(try clear hi)))
      go_ret
      exact ⟨by first|rfl|(simp [errW_none,errW_some] <;> rfl)|(simp [*,errW_none,errW_some] <;> rfl),by repeat (first|(with_reducible first|exact HB.out|apply below_alloc|apply pw_below_drewN|apply below_drew1|refine below_set ?_ GE314.out|refine below_set ?_ GE315.out)|exact HB.out)⟩
     ·rw [if_neg c7] at H
      have c7b0 : (a0_4 == a1_4)=false:=beq_eq_false_iff_ne.mpr c7
      have c7b1 : (a0_4 != a1_4)=true:=bne_iff_ne.mpr c7
      obtain rfl:=Option.some.inj H
      go_enter Try.func37,Try.ntmps37
      go_wp2_with (first|((with_reducible refine gate_dst (N:=2) rfl ?_);refine box_event ?hg (N:=2) ?hd (cs:=#[.bool a0_0,.bool a0_1,.int .i64 a0_2,.int .i64 a0_3,.int .i64 a0_4,.slice A0_5 l0_5.length c0_5]) (t:=39) ?hr ?_;(case hd=>rfl);(case hg=>rfl);(case hr=>first|(go_simp;done)|(go_simp;rfl));intro gb314 hg w15 hbox hb;have n0_:=Aside0.mk (below_step (by repeat (first|(with_reducible first|exact HB.out|apply below_alloc|apply pw_below_drewN|apply below_drew1)|exact HB.out)) hb);have n1_:=Aside0.mk (hbox);have n2_:=Aside0.mk ((by rw [hg];exact (below_size (by repeat (first|(with_reducible first|exact HB.out|apply below_alloc|apply pw_below_drewN|apply below_drew1)|exact HB.out))) : w.heap.size ≤ gb314));have n3_:=Aside0.mk ((by rw [hg];exact (below_size (by repeat (first|(with_reducible first|exact HB.out|apply below_alloc|apply pw_below_drewN|apply below_drew1)|exact HB.out))) : w.heap.size ≤ gb314));clear HB;have HB:=n0_;have BK314:=n1_;have GW314:=n2_;have GE314:=n3_;clear n0_ n1_ n2_ n3_;clear hb hbox hg)|((with_reducible refine gate_dst (N:=3) rfl ?_);refine box_event ?hg (N:=3) ?hd (cs:=#[.bool a1_0,.bool a1_1,.int .i64 a1_2,.int .i64 a1_3,.int .i64 a1_4,.slice A1_5 l1_5.length c1_5]) (t:=39) ?hr ?_;(case hd=>rfl);(case hg=>rfl);(case hr=>first|(go_simp;done)|(go_simp;rfl));intro gb315 hg w16 hbox hb;have n0_:=Aside0.mk (blk_below (g:=gb314) (o:=.cells #[.bool a0_0,.bool a0_1,.int .i64 a0_2,.int .i64 a0_3,.int .i64 a0_4,.slice A0_5 l0_5.length c0_5] 39 (0,0)) (by (with_reducible repeat (first|refine blk_drewN ?_ _|refine blk_drew ?_|refine blk_alloc ?_ _));exact BK314.out) hb);have n1_:=Aside0.mk (below_step (by repeat (first|(with_reducible first|exact HB.out|apply below_alloc|apply pw_below_drewN|apply below_drew1|refine below_set ?_ GE314.out)|exact HB.out)) hb);have n2_:=Aside0.mk (hbox);have n3_:=Aside0.mk ((by rw [hg];exact (below_size (by repeat (first|(with_reducible first|exact HB.out|apply below_alloc|apply pw_below_drewN|apply below_drew1|refine below_set ?_ GE314.out)|exact HB.out))) : w.heap.size ≤ gb315));have n4_:=Aside0.mk ((by rw [hg];exact (below_size (by repeat (first|(with_reducible first|exact HB.out|apply below_alloc|apply pw_below_drewN|apply below_drew1|refine below_set ?_ GE314.out)|exact HB.out))) : w.heap.size ≤ gb315));have n5_:=Aside0.mk ((by rw [hg];exact Nat.ne_of_lt (blk_lt (g:=gb314) (o:=.cells #[.bool a0_0,.bool a0_1,.int .i64 a0_2,.int .i64 a0_3,.int .i64 a0_4,.slice A0_5 l0_5.length c0_5] 39 (0,0)) (by (with_reducible repeat (first|refine blk_drewN ?_ _|refine blk_drew ?_|refine blk_alloc ?_ _));exact BK314.out)) : gb314 ≠ gb315));have n6_:=Aside0.mk ((by rw [hg];exact Nat.ne_of_gt (blk_lt (g:=gb314) (o:=.cells #[.bool a0_0,.bool a0_1,.int .i64 a0_2,.int .i64 a0_3,.int .i64 a0_4,.slice A0_5 l0_5.length c0_5] 39 (0,0)) (by (with_reducible repeat (first|refine blk_drewN ?_ _|refine blk_drew ?_|refine blk_alloc ?_ _));exact BK314.out)) : gb315 ≠ gb314));clear BK314;clear HB;have BK314:=n0_;have HB:=n1_;have BK315:=n2_;have GW315:=n3_;have GE315:=n4_;have NB314_315:=n5_;have NB315_314:=n6_;clear n0_ n1_ n2_ n3_ n4_ n5_ n6_;clear hb hbox hg;have hnb17:=NB314_315.out;have hnc17:=NB315_314.out;have hcz18_0 : w16.cell? ⟨gb314,0,none⟩ = some (.bool a0_0):=(blk_cell BK314.out 0).trans rfl;have hcz18_1 : w16.cell? ⟨gb314,1,none⟩ = some (.bool a0_1):=(blk_cell BK314.out 1).trans rfl;have hcz18_2 : w16.cell? ⟨gb314,2,none⟩ = some (.int .i64 a0_2):=(blk_cell BK314.out 2).trans rfl;have hcz18_3 : w16.cell? ⟨gb314,3,none⟩ = some (.int .i64 a0_3):=(blk_cell BK314.out 3).trans rfl;have hcz18_4 : w16.cell? ⟨gb314,4,none⟩ = some (.int .i64 a0_4):=(blk_cell BK314.out 4).trans rfl;have hcz18_5 : w16.cell? ⟨gb314,5,none⟩ = some (.slice A0_5 l0_5.length c0_5):=(blk_cell BK314.out 5).trans rfl;have hfz18_0:=blk_frozen BK314.out 0;have hfz18_1:=blk_frozen BK314.out 1;have hfz18_2:=blk_frozen BK314.out 2;have hfz18_3:=blk_frozen BK314.out 3;have hfz18_4:=blk_frozen BK314.out 4;have hfz18_5:=blk_frozen BK314.out 5;have hcz19_0 : w16.cell? ⟨gb315,0,none⟩ = some (.bool a1_0):=(blk_cell BK315.out 0).trans rfl;have hcz19_1 : w16.cell? ⟨gb315,1,none⟩ = some (.bool a1_1):=(blk_cell BK315.out 1).trans rfl;have hcz19_2 : w16.cell? ⟨gb315,2,none⟩ = some (.int .i64 a1_2):=(blk_cell BK315.out 2).trans rfl;have hcz19_3 : w16.cell? ⟨gb315,3,none⟩ = some (.int .i64 a1_3):=(blk_cell BK315.out 3).trans rfl;have hcz19_4 : w16.cell? ⟨gb315,4,none⟩ = some (.int .i64 a1_4):=(blk_cell BK315.out 4).trans rfl;have hcz19_5 : w16.cell? ⟨gb315,5,none⟩ = some (.slice A1_5 l1_5.length c1_5):=(blk_cell BK315.out 5).trans rfl;have hfz19_0:=blk_frozen BK315.out 0;have hfz19_1:=blk_frozen BK315.out 1;have hfz19_2:=blk_frozen BK315.out 2;have hfz19_3:=blk_frozen BK315.out 3;have hfz19_4:=blk_frozen BK315.out 4;have hfz19_5:=blk_frozen BK315.out 5))
      go_ret
      exact ⟨by first|rfl|(simp [errW_none,errW_some] <;> rfl)|(simp [*,errW_none,errW_some] <;> rfl),by repeat (first|(with_reducible first|exact HB.out|apply below_alloc|apply pw_below_drewN|apply below_drew1|refine below_set ?_ GE314.out|refine below_set ?_ GE315.out)|exact HB.out)⟩
    ·rw [if_neg c6] at H
     have c6b0 : (a0_3 == a1_3)=false:=beq_eq_false_iff_ne.mpr c6
     have c6b1 : (a0_3 != a1_3)=true:=bne_iff_ne.mpr c6
     obtain rfl:=Option.some.inj H
     go_enter Try.func37,Try.ntmps37
     go_wp2_with (first|((with_reducible refine gate_dst (N:=2) rfl ?_);refine box_event ?hg (N:=2) ?hd (cs:=#[.bool a0_0,.bool a0_1,.int .i64 a0_2,.int .i64 a0_3,.int .i64 a0_4,.slice A0_5 l0_5.length c0_5]) (t:=39) ?hr ?_;(case hd=>rfl);(case hg=>rfl);(case hr=>first|(go_simp;done)|(go_simp;rfl));intro gb314 hg w20 hbox hb;have n0_:=Aside0.mk (below_step (by repeat (first|(with_reducible first|exact HB.out|apply below_alloc|apply pw_below_drewN|apply below_drew1)|exact HB.out)) hb);have n1_:=Aside0.mk (hbox);have n2_:=Aside0.mk ((by rw [hg];exact (below_size (by repeat (first|(with_reducible first|exact HB.out|apply below_alloc|apply pw_below_drewN|apply below_drew1)|exact HB.out))) : w.heap.size ≤ gb314));have n3_:=Aside0.mk ((by rw [hg];exact (below_size (by repeat (first|(with_reducible first|exact HB.out|apply below_alloc|apply pw_below_drewN|apply below_drew1)|exact HB.out))) : w.heap.size ≤ gb314));clear HB;have HB:=n0_;have BK314:=n1_;have GW314:=n2_;have GE314:=n3_;clear n0_ n1_ n2_ n3_;clear hb hbox hg)|((with_reducible refine gate_dst (N:=3) rfl ?_);refine box_event ?hg (N:=3) ?hd (cs:=#[.bool a1_0,.bool a1_1,.int .i64 a1_2,.int .i64 a1_3,.int .i64 a1_4,.slice A1_5 l1_5.length c1_5]) (t:=39) ?hr ?_;(case hd=>rfl);(case hg=>rfl);(case hr=>first|(go_simp;done)|(go_simp;rfl));intro gb315 hg w21 hbox hb;have n0_:=Aside0.mk (blk_below (g:=gb314) (o:=.cells #[.bool a0_0,.bool a0_1,.int .i64 a0_2,.int .i64 a0_3,.int .i64 a0_4,.slice A0_5 l0_5.length c0_5] 39 (0,0)) (by (with_reducible repeat (first|refine blk_drewN ?_ _|refine blk_drew ?_|refine blk_alloc ?_ _));exact BK314.out) hb);have n1_:=Aside0.mk (below_step (by repeat (first|(with_reducible first|exact HB.out|apply below_alloc|apply pw_below_drewN|apply below_drew1|refine below_set ?_ GE314.out)|exact HB.out)) hb);have n2_:=Aside0.mk (hbox);have n3_:=Aside0.mk ((by rw [hg];exact (below_size (by repeat (first|(with_reducible first|exact HB.out|apply below_alloc|apply pw_below_drewN|apply below_drew1|refine below_set ?_ GE314.out)|exact HB.out))) : w.heap.size ≤ gb315));have n4_:=Aside0.mk ((by rw [hg];exact (below_size (by repeat (first|(with_reducible first|exact HB.out|apply below_alloc|apply pw_below_drewN|apply below_drew1|refine below_set ?_ GE314.out)|exact HB.out))) : w.heap.size ≤ gb315));have n5_:=Aside0.mk ((by rw [hg];exact Nat.ne_of_lt (blk_lt (g:=gb314) (o:=.cells #[.bool a0_0,.bool a0_1,.int .i64 a0_2,.int .i64 a0_3,.int .i64 a0_4,.slice A0_5 l0_5.length c0_5] 39 (0,0)) (by (with_reducible repeat (first|refine blk_drewN ?_ _|refine blk_drew ?_|refine blk_alloc ?_ _));exact BK314.out)) : gb314 ≠ gb315));have n6_:=Aside0.mk ((by rw [hg];exact Nat.ne_of_gt (blk_lt (g:=gb314) (o:=.cells #[.bool a0_0,.bool a0_1,.int .i64 a0_2,.int .i64 a0_3,.int .i64 a0_4,.slice A0_5 l0_5.length c0_5] 39 (0,0)) (by (with_reducible repeat (first|refine blk_drewN ?_ _|refine blk_drew ?_|refine blk_alloc ?_ _));exact BK314.out)) : gb315 ≠ gb314));clear BK314;clear HB;have BK314:=n0_;have HB:=n1_;have BK315:=n2_;have GW315:=n3_;have GE315:=n4_;have NB314_315:=n5_;have NB315_314:=n6_;clear n0_ n1_ n2_ n3_ n4_ n5_ n6_;clear hb hbox hg;have hnb22:=NB314_315.out;have hnc22:=NB315_314.out;have hcz23_0 : w21.cell? ⟨gb314,0,none⟩ = some (.bool a0_0):=(blk_cell BK314.out 0).trans rfl;have hcz23_1 : w21.cell? ⟨gb314,1,none⟩ = some (.bool a0_1):=(blk_cell BK314.out 1).trans rfl;have hcz23_2 : w21.cell? ⟨gb314,2,none⟩ = some (.int .i64 a0_2):=(blk_cell BK314.out 2).trans rfl;have hcz23_3 : w21.cell? ⟨gb314,3,none⟩ = some (.int .i64 a0_3):=(blk_cell BK314.out 3).trans rfl;have hcz23_4 : w21.cell? ⟨gb314,4,none⟩ = some (.int .i64 a0_4):=(blk_cell BK314.out 4).trans rfl;have hcz23_5 : w21.cell? ⟨gb314,5,none⟩ = some (.slice A0_5 l0_5.length c0_5):=(blk_cell BK314.out 5).trans rfl;have hfz23_0:=blk_frozen BK314.out 0;have hfz23_1:=blk_frozen BK314.out 1;have hfz23_2:=blk_frozen BK314.out 2;have hfz23_3:=blk_frozen BK314.out 3;have hfz23_4:=blk_frozen BK314.out 4;have hfz23_5:=blk_frozen BK314.out 5;have hcz24_0 : w21.cell? ⟨gb315,0,none⟩ = some (.bool a1_0):=(blk_cell BK315.out 0).trans rfl;have hcz24_1 : w21.cell? ⟨gb315,1,none⟩ = some (.bool a1_1):=(blk_cell BK315.out 1).trans rfl;have hcz24_2 : w21.cell? ⟨gb315,2,none⟩ = some (.int .i64 a1_2):=(blk_cell BK315.out 2).trans rfl;have hcz24_3 : w21.cell? ⟨gb315,3,none⟩ = some (.int .i64 a1_3):=(blk_cell BK315.out 3).trans rfl;have hcz24_4 : w21.cell? ⟨gb315,4,none⟩ = some (.int .i64 a1_4):=(blk_cell BK315.out 4).trans rfl;have hcz24_5 : w21.cell? ⟨gb315,5,none⟩ = some (.slice A1_5 l1_5.length c1_5):=(blk_cell BK315.out 5).trans rfl;have hfz24_0:=blk_frozen BK315.out 0;have hfz24_1:=blk_frozen BK315.out 1;have hfz24_2:=blk_frozen BK315.out 2;have hfz24_3:=blk_frozen BK315.out 3;have hfz24_4:=blk_frozen BK315.out 4;have hfz24_5:=blk_frozen BK315.out 5))
     go_ret
     exact ⟨by first|rfl|(simp [errW_none,errW_some] <;> rfl)|(simp [*,errW_none,errW_some] <;> rfl),by repeat (first|(with_reducible first|exact HB.out|apply below_alloc|apply pw_below_drewN|apply below_drew1|refine below_set ?_ GE314.out|refine below_set ?_ GE315.out)|exact HB.out)⟩
   ·rw [if_neg c5] at H
    have c5b0 : (a0_2 == a1_2)=false:=beq_eq_false_iff_ne.mpr c5
    have c5b1 : (a0_2 != a1_2)=true:=bne_iff_ne.mpr c5
    obtain rfl:=Option.some.inj H
    go_enter Try.func37,Try.ntmps37
    go_wp2_with (first|((with_reducible refine gate_dst (N:=2) rfl ?_);refine box_event ?hg (N:=2) ?hd (cs:=#[.bool a0_0,.bool a0_1,.int .i64 a0_2,.int .i64 a0_3,.int .i64 a0_4,.slice A0_5 l0_5.length c0_5]) (t:=39) ?hr ?_;(case hd=>rfl);(case hg=>rfl);(case hr=>first|(go_simp;done)|(go_simp;rfl));intro gb314 hg w25 hbox hb;have n0_:=Aside0.mk (below_step (by repeat (first|(with_reducible first|exact HB.out|apply below_alloc|apply pw_below_drewN|apply below_drew1)|exact HB.out)) hb);have n1_:=Aside0.mk (hbox);have n2_:=Aside0.mk ((by rw [hg];exact (below_size (by repeat (first|(with_reducible first|exact HB.out|apply below_alloc|apply pw_below_drewN|apply below_drew1)|exact HB.out))) : w.heap.size ≤ gb314));have n3_:=Aside0.mk ((by rw [hg];exact (below_size (by repeat (first|(with_reducible first|exact HB.out|apply below_alloc|apply pw_below_drewN|apply below_drew1)|exact HB.out))) : w.heap.size ≤ gb314));clear HB;have HB:=n0_;have BK314:=n1_;have GW314:=n2_;have GE314:=n3_;clear n0_ n1_ n2_ n3_;clear hb hbox hg)|((with_reducible refine gate_dst (N:=3) rfl ?_);refine box_event ?hg (N:=3) ?hd (cs:=#[.bool a1_0,.bool a1_1,.int .i64 a1_2,.int .i64 a1_3,.int .i64 a1_4,.slice A1_5 l1_5.length c1_5]) (t:=39) ?hr ?_;(case hd=>rfl);(case hg=>rfl);(case hr=>first|(go_simp;done)|(go_simp;rfl));intro gb315 hg w26 hbox hb;have n0_:=Aside0.mk (blk_below (g:=gb314) (o:=.cells #[.bool a0_0,.bool a0_1,.int .i64 a0_2,.int .i64 a0_3,.int .i64 a0_4,.slice A0_5 l0_5.length c0_5] 39 (0,0)) (by (with_reducible repeat (first|refine blk_drewN ?_ _|refine blk_drew ?_|refine blk_alloc ?_ _));exact BK314.out) hb);have n1_:=Aside0.mk (below_step (by repeat (first|(with_reducible first|exact HB.out|apply below_alloc|apply pw_below_drewN|apply below_drew1|refine below_set ?_ GE314.out)|exact HB.out)) hb);have n2_:=Aside0.mk (hbox);have n3_:=Aside0.mk ((by rw [hg];exact (below_size (by repeat (first|(with_reducible first|exact HB.out|apply below_alloc|apply pw_below_drewN|apply below_drew1|refine below_set ?_ GE314.out)|exact HB.out))) : w.heap.size ≤ gb315));have n4_:=Aside0.mk ((by rw [hg];exact (below_size (by repeat (first|(with_reducible first|exact HB.out|apply below_alloc|apply pw_below_drewN|apply below_drew1|refine below_set ?_ GE314.out)|exact HB.out))) : w.heap.size ≤ gb315));have n5_:=Aside0.mk ((by rw [hg];exact Nat.ne_of_lt (blk_lt (g:=gb314) (o:=.cells #[.bool a0_0,.bool a0_1,.int .i64 a0_2,.int .i64 a0_3,.int .i64 a0_4,.slice A0_5 l0_5.length c0_5] 39 (0,0)) (by (with_reducible repeat (first|refine blk_drewN ?_ _|refine blk_drew ?_|refine blk_alloc ?_ _));exact BK314.out)) : gb314 ≠ gb315));have n6_:=Aside0.mk ((by rw [hg];exact Nat.ne_of_gt (blk_lt (g:=gb314) (o:=.cells #[.bool a0_0,.bool a0_1,.int .i64 a0_2,.int .i64 a0_3,.int .i64 a0_4,.slice A0_5 l0_5.length c0_5] 39 (0,0)) (by (with_reducible repeat (first|refine blk_drewN ?_ _|refine blk_drew ?_|refine blk_alloc ?_ _));exact BK314.out)) : gb315 ≠ gb314));clear BK314;clear HB;have BK314:=n0_;have HB:=n1_;have BK315:=n2_;have GW315:=n3_;have GE315:=n4_;have NB314_315:=n5_;have NB315_314:=n6_;clear n0_ n1_ n2_ n3_ n4_ n5_ n6_;clear hb hbox hg;have hnb27:=NB314_315.out;have hnc27:=NB315_314.out;have hcz28_0 : w26.cell? ⟨gb314,0,none⟩ = some (.bool a0_0):=(blk_cell BK314.out 0).trans rfl;have hcz28_1 : w26.cell? ⟨gb314,1,none⟩ = some (.bool a0_1):=(blk_cell BK314.out 1).trans rfl;have hcz28_2 : w26.cell? ⟨gb314,2,none⟩ = some (.int .i64 a0_2):=(blk_cell BK314.out 2).trans rfl;have hcz28_3 : w26.cell? ⟨gb314,3,none⟩ = some (.int .i64 a0_3):=(blk_cell BK314.out 3).trans rfl;have hcz28_4 : w26.cell? ⟨gb314,4,none⟩ = some (.int .i64 a0_4):=(blk_cell BK314.out 4).trans rfl;have hcz28_5 : w26.cell? ⟨gb314,5,none⟩ = some (.slice A0_5 l0_5.length c0_5):=(blk_cell BK314.out 5).trans rfl;have hfz28_0:=blk_frozen BK314.out 0;have hfz28_1:=blk_frozen BK314.out 1;have hfz28_2:=blk_frozen BK314.out 2;have hfz28_3:=blk_frozen BK314.out 3;have hfz28_4:=blk_frozen BK314.out 4;have hfz28_5:=blk_frozen BK314.out 5;have hcz29_0 : w26.cell? ⟨gb315,0,none⟩ = some (.bool a1_0):=(blk_cell BK315.out 0).trans rfl;have hcz29_1 : w26.cell? ⟨gb315,1,none⟩ = some (.bool a1_1):=(blk_cell BK315.out 1).trans rfl;have hcz29_2 : w26.cell? ⟨gb315,2,none⟩ = some (.int .i64 a1_2):=(blk_cell BK315.out 2).trans rfl;have hcz29_3 : w26.cell? ⟨gb315,3,none⟩ = some (.int .i64 a1_3):=(blk_cell BK315.out 3).trans rfl;have hcz29_4 : w26.cell? ⟨gb315,4,none⟩ = some (.int .i64 a1_4):=(blk_cell BK315.out 4).trans rfl;have hcz29_5 : w26.cell? ⟨gb315,5,none⟩ = some (.slice A1_5 l1_5.length c1_5):=(blk_cell BK315.out 5).trans rfl;have hfz29_0:=blk_frozen BK315.out 0;have hfz29_1:=blk_frozen BK315.out 1;have hfz29_2:=blk_frozen BK315.out 2;have hfz29_3:=blk_frozen BK315.out 3;have hfz29_4:=blk_frozen BK315.out 4;have hfz29_5:=blk_frozen BK315.out 5))
    go_ret
    exact ⟨by first|rfl|(simp [errW_none,errW_some] <;> rfl)|(simp [*,errW_none,errW_some] <;> rfl),by repeat (first|(with_reducible first|exact HB.out|apply below_alloc|apply pw_below_drewN|apply below_drew1|refine below_set ?_ GE314.out|refine below_set ?_ GE315.out)|exact HB.out)⟩
  ·rw [if_neg c4] at H
   have c4b0 : (a0_1 == a1_1)=false:=by simpa using c4
   (try (have c4b1 : decide (a0_1=a1_1)=false:=by simpa using c4))
   (try (have c4b2 : (a0_1 == a1_1)=false:=by simpa using c4))
   (try (have c4b3 : ¬ (a0_1=a1_1):=by simpa using c4))
   clear c4
   obtain rfl:=Option.some.inj H
   go_enter Try.func37,Try.ntmps37
   go_wp2_with (first|((with_reducible refine gate_dst (N:=2) rfl ?_);refine box_event ?hg (N:=2) ?hd (cs:=#[.bool a0_0,.bool a0_1,.int .i64 a0_2,.int .i64 a0_3,.int .i64 a0_4,.slice A0_5 l0_5.length c0_5]) (t:=39) ?hr ?_;(case hd=>rfl);(case hg=>rfl);(case hr=>first|(go_simp;done)|(go_simp;rfl));intro gb314 hg w30 hbox hb;have n0_:=Aside0.mk (below_step (by repeat (first|(with_reducible first|exact HB.out|apply below_alloc|apply pw_below_drewN|apply below_drew1)|exact HB.out)) hb);have n1_:=Aside0.mk (hbox);have n2_:=Aside0.mk ((by rw [hg];exact (below_size (by repeat (first|(with_reducible first|exact HB.out|apply below_alloc|apply pw_below_drewN|apply below_drew1)|exact HB.out))) : w.heap.size ≤ gb314));have n3_:=Aside0.mk ((by rw [hg];exact (below_size (by repeat (first|(with_reducible first|exact HB.out|apply below_alloc|apply pw_below_drewN|apply below_drew1)|exact HB.out))) : w.heap.size ≤ gb314));clear HB;have HB:=n0_;have BK314:=n1_;have GW314:=n2_;have GE314:=n3_;clear n0_ n1_ n2_ n3_;clear hb hbox hg)|((with_reducible refine gate_dst (N:=3) rfl ?_);refine box_event ?hg (N:=3) ?hd (cs:=#[.bool a1_0,.bool a1_1,.int .i64 a1_2,.int .i64 a1_3,.int .i64 a1_4,.slice A1_5 l1_5.length c1_5]) (t:=39) ?hr ?_;(case hd=>rfl);(case hg=>rfl);(case hr=>first|(go_simp;done)|(go_simp;rfl));intro gb315 hg w31 hbox hb;have n0_:=Aside0.mk (blk_below (g:=gb314) (o:=.cells #[.bool a0_0,.bool a0_1,.int .i64 a0_2,.int .i64 a0_3,.int .i64 a0_4,.slice A0_5 l0_5.length c0_5] 39 (0,0)) (by (with_reducible repeat (first|refine blk_drewN ?_ _|refine blk_drew ?_|refine blk_alloc ?_ _));exact BK314.out) hb);have n1_:=Aside0.mk (below_step (by repeat (first|(with_reducible first|exact HB.out|apply below_alloc|apply pw_below_drewN|apply below_drew1|refine below_set ?_ GE314.out)|exact HB.out)) hb);have n2_:=Aside0.mk (hbox);have n3_:=Aside0.mk ((by rw [hg];exact (below_size (by repeat (first|(with_reducible first|exact HB.out|apply below_alloc|apply pw_below_drewN|apply below_drew1|refine below_set ?_ GE314.out)|exact HB.out))) : w.heap.size ≤ gb315));have n4_:=Aside0.mk ((by rw [hg];exact (below_size (by repeat (first|(with_reducible first|exact HB.out|apply below_alloc|apply pw_below_drewN|apply below_drew1|refine below_set ?_ GE314.out)|exact HB.out))) : w.heap.size ≤ gb315));have n5_:=Aside0.mk ((by rw [hg];exact Nat.ne_of_lt (blk_lt (g:=gb314) (o:=.cells #[.bool a0_0,.bool a0_1,.int .i64 a0_2,.int .i64 a0_3,.int .i64 a0_4,.slice A0_5 l0_5.length c0_5] 39 (0,0)) (by (with_reducible repeat (first|refine blk_drewN ?_ _|refine blk_drew ?_|refine blk_alloc ?_ _));exact BK314.out)) : gb314 ≠ gb315));have n6_:=Aside0.mk ((by rw [hg];exact Nat.ne_of_gt (blk_lt (g:=gb314) (o:=.cells #[.bool a0_0,.bool a0_1,.int .i64 a0_2,.int .i64 a0_3,.int .i64 a0_4,.slice A0_5 l0_5.length c0_5] 39 (0,0)) (by (with_reducible repeat (first|refine blk_drewN ?_ _|refine blk_drew ?_|refine blk_alloc ?_ _));exact BK314.out)) : gb315 ≠ gb314));clear BK314;clear HB;have BK314:=n0_;have HB:=n1_;have BK315:=n2_;have GW315:=n3_;have GE315:=n4_;have NB314_315:=n5_;have NB315_314:=n6_;clear n0_ n1_ n2_ n3_ n4_ n5_ n6_;clear hb hbox hg;have hnb32:=NB314_315.out;have hnc32:=NB315_314.out;have hcz33_0 : w31.cell? ⟨gb314,0,none⟩ = some (.bool a0_0):=(blk_cell BK314.out 0).trans rfl;have hcz33_1 : w31.cell? ⟨gb314,1,none⟩ = some (.bool a0_1):=(blk_cell BK314.out 1).trans rfl;have hcz33_2 : w31.cell? ⟨gb314,2,none⟩ = some (.int .i64 a0_2):=(blk_cell BK314.out 2).trans rfl;have hcz33_3 : w31.cell? ⟨gb314,3,none⟩ = some (.int .i64 a0_3):=(blk_cell BK314.out 3).trans rfl;have hcz33_4 : w31.cell? ⟨gb314,4,none⟩ = some (.int .i64 a0_4):=(blk_cell BK314.out 4).trans rfl;have hcz33_5 : w31.cell? ⟨gb314,5,none⟩ = some (.slice A0_5 l0_5.length c0_5):=(blk_cell BK314.out 5).trans rfl;have hfz33_0:=blk_frozen BK314.out 0;have hfz33_1:=blk_frozen BK314.out 1;have hfz33_2:=blk_frozen BK314.out 2;have hfz33_3:=blk_frozen BK314.out 3;have hfz33_4:=blk_frozen BK314.out 4;have hfz33_5:=blk_frozen BK314.out 5;have hcz34_0 : w31.cell? ⟨gb315,0,none⟩ = some (.bool a1_0):=(blk_cell BK315.out 0).trans rfl;have hcz34_1 : w31.cell? ⟨gb315,1,none⟩ = some (.bool a1_1):=(blk_cell BK315.out 1).trans rfl;have hcz34_2 : w31.cell? ⟨gb315,2,none⟩ = some (.int .i64 a1_2):=(blk_cell BK315.out 2).trans rfl;have hcz34_3 : w31.cell? ⟨gb315,3,none⟩ = some (.int .i64 a1_3):=(blk_cell BK315.out 3).trans rfl;have hcz34_4 : w31.cell? ⟨gb315,4,none⟩ = some (.int .i64 a1_4):=(blk_cell BK315.out 4).trans rfl;have hcz34_5 : w31.cell? ⟨gb315,5,none⟩ = some (.slice A1_5 l1_5.length c1_5):=(blk_cell BK315.out 5).trans rfl;have hfz34_0:=blk_frozen BK315.out 0;have hfz34_1:=blk_frozen BK315.out 1;have hfz34_2:=blk_frozen BK315.out 2;have hfz34_3:=blk_frozen BK315.out 3;have hfz34_4:=blk_frozen BK315.out 4;have hfz34_5:=blk_frozen BK315.out 5))
   go_ret
   exact ⟨by first|rfl|(simp [errW_none,errW_some] <;> rfl)|(simp [*,errW_none,errW_some] <;> rfl),by repeat (first|(with_reducible first|exact HB.out|apply below_alloc|apply pw_below_drewN|apply below_drew1|refine below_set ?_ GE314.out|refine below_set ?_ GE315.out)|exact HB.out)⟩
 ·rw [if_neg c3] at H
  have c3b0 : (a0_0 == a1_0)=false:=by simpa using c3
  (try (have c3b1 : decide (a0_0=a1_0)=false:=by simpa using c3))
  (try (have c3b2 : (a0_0 == a1_0)=false:=by simpa using c3))
  (try (have c3b3 : ¬ (a0_0=a1_0):=by simpa using c3))
  clear c3
  obtain rfl:=Option.some.inj H
  go_enter Try.func37,Try.ntmps37
  go_wp2_with (first|((with_reducible refine gate_dst (N:=2) rfl ?_);refine box_event ?hg (N:=2) ?hd (cs:=#[.bool a0_0,.bool a0_1,.int .i64 a0_2,.int .i64 a0_3,.int .i64 a0_4,.slice A0_5 l0_5.length c0_5]) (t:=39) ?hr ?_;(case hd=>rfl);(case hg=>rfl);(case hr=>first|(go_simp;done)|(go_simp;rfl));intro gb314 hg w35 hbox hb;have n0_:=Aside0.mk (below_step (by repeat (first|(with_reducible first|exact HB.out|apply below_alloc|apply pw_below_drewN|apply below_drew1)|exact HB.out)) hb);have n1_:=Aside0.mk (hbox);have n2_:=Aside0.mk ((by rw [hg];exact (below_size (by repeat (first|(with_reducible first|exact HB.out|apply below_alloc|apply pw_below_drewN|apply below_drew1)|exact HB.out))) : w.heap.size ≤ gb314));have n3_:=Aside0.mk ((by rw [hg];exact (below_size (by repeat (first|(with_reducible first|exact HB.out|apply below_alloc|apply pw_below_drewN|apply below_drew1)|exact HB.out))) : w.heap.size ≤ gb314));clear HB;have HB:=n0_;have BK314:=n1_;have GW314:=n2_;have GE314:=n3_;clear n0_ n1_ n2_ n3_;clear hb hbox hg)|((with_reducible refine gate_dst (N:=3) rfl ?_);refine box_event ?hg (N:=3) ?hd (cs:=#[.bool a1_0,.bool a1_1,.int .i64 a1_2,.int .i64 a1_3,.int .i64 a1_4,.slice A1_5 l1_5.length c1_5]) (t:=39) ?hr ?_;(case hd=>rfl);(case hg=>rfl);(case hr=>first|(go_simp;done)|(go_simp;rfl));intro gb315 hg w36 hbox hb;have n0_:=Aside0.mk (blk_below (g:=gb314) (o:=.cells #[.bool a0_0,.bool a0_1,.int .i64 a0_2,.int .i64 a0_3,.int .i64 a0_4,.slice A0_5 l0_5.length c0_5] 39 (0,0)) (by (with_reducible repeat (first|refine blk_drewN ?_ _|refine blk_drew ?_|refine blk_alloc ?_ _));exact BK314.out) hb);have n1_:=Aside0.mk (below_step (by repeat (first|(with_reducible first|exact HB.out|apply below_alloc|apply pw_below_drewN|apply below_drew1|refine below_set ?_ GE314.out)|exact HB.out)) hb);have n2_:=Aside0.mk (hbox);have n3_:=Aside0.mk ((by rw [hg];exact (below_size (by repeat (first|(with_reducible first|exact HB.out|apply below_alloc|apply pw_below_drewN|apply below_drew1|refine below_set ?_ GE314.out)|exact HB.out))) : w.heap.size ≤ gb315));have n4_:=Aside0.mk ((by rw [hg];exact (below_size (by repeat (first|(with_reducible first|exact HB.out|apply below_alloc|apply pw_below_drewN|apply below_drew1|refine below_set ?_ GE314.out)|exact HB.out))) : w.heap.size ≤ gb315));have n5_:=Aside0.mk ((by rw [hg];exact Nat.ne_of_lt (blk_lt (g:=gb314) (o:=.cells #[.bool a0_0,.bool a0_1,.int .i64 a0_2,.int .i64 a0_3,.int .i64 a0_4,.slice A0_5 l0_5.length c0_5] 39 (0,0)) (by (with_reducible repeat (first|refine blk_drewN ?_ _|refine blk_drew ?_|refine blk_alloc ?_ _));exact BK314.out)) : gb314 ≠ gb315));have n6_:=Aside0.mk ((by rw [hg];exact Nat.ne_of_gt (blk_lt (g:=gb314) (o:=.cells #[.bool a0_0,.bool a0_1,.int .i64 a0_2,.int .i64 a0_3,.int .i64 a0_4,.slice A0_5 l0_5.length c0_5] 39 (0,0)) (by (with_reducible repeat (first|refine blk_drewN ?_ _|refine blk_drew ?_|refine blk_alloc ?_ _));exact BK314.out)) : gb315 ≠ gb314));clear BK314;clear HB;have BK314:=n0_;have HB:=n1_;have BK315:=n2_;have GW315:=n3_;have GE315:=n4_;have NB314_315:=n5_;have NB315_314:=n6_;clear n0_ n1_ n2_ n3_ n4_ n5_ n6_;clear hb hbox hg;have hnb37:=NB314_315.out;have hnc37:=NB315_314.out;have hcz38_0 : w36.cell? ⟨gb314,0,none⟩ = some (.bool a0_0):=(blk_cell BK314.out 0).trans rfl;have hcz38_1 : w36.cell? ⟨gb314,1,none⟩ = some (.bool a0_1):=(blk_cell BK314.out 1).trans rfl;have hcz38_2 : w36.cell? ⟨gb314,2,none⟩ = some (.int .i64 a0_2):=(blk_cell BK314.out 2).trans rfl;have hcz38_3 : w36.cell? ⟨gb314,3,none⟩ = some (.int .i64 a0_3):=(blk_cell BK314.out 3).trans rfl;have hcz38_4 : w36.cell? ⟨gb314,4,none⟩ = some (.int .i64 a0_4):=(blk_cell BK314.out 4).trans rfl;have hcz38_5 : w36.cell? ⟨gb314,5,none⟩ = some (.slice A0_5 l0_5.length c0_5):=(blk_cell BK314.out 5).trans rfl;have hfz38_0:=blk_frozen BK314.out 0;have hfz38_1:=blk_frozen BK314.out 1;have hfz38_2:=blk_frozen BK314.out 2;have hfz38_3:=blk_frozen BK314.out 3;have hfz38_4:=blk_frozen BK314.out 4;have hfz38_5:=blk_frozen BK314.out 5;have hcz39_0 : w36.cell? ⟨gb315,0,none⟩ = some (.bool a1_0):=(blk_cell BK315.out 0).trans rfl;have hcz39_1 : w36.cell? ⟨gb315,1,none⟩ = some (.bool a1_1):=(blk_cell BK315.out 1).trans rfl;have hcz39_2 : w36.cell? ⟨gb315,2,none⟩ = some (.int .i64 a1_2):=(blk_cell BK315.out 2).trans rfl;have hcz39_3 : w36.cell? ⟨gb315,3,none⟩ = some (.int .i64 a1_3):=(blk_cell BK315.out 3).trans rfl;have hcz39_4 : w36.cell? ⟨gb315,4,none⟩ = some (.int .i64 a1_4):=(blk_cell BK315.out 4).trans rfl;have hcz39_5 : w36.cell? ⟨gb315,5,none⟩ = some (.slice A1_5 l1_5.length c1_5):=(blk_cell BK315.out 5).trans rfl;have hfz39_0:=blk_frozen BK315.out 0;have hfz39_1:=blk_frozen BK315.out 1;have hfz39_2:=blk_frozen BK315.out 2;have hfz39_3:=blk_frozen BK315.out 3;have hfz39_4:=blk_frozen BK315.out 4;have hfz39_5:=blk_frozen BK315.out 5))
  go_ret
  exact ⟨by first|rfl|(simp [errW_none,errW_some] <;> rfl)|(simp [*,errW_none,errW_some] <;> rfl),by repeat (first|(with_reducible first|exact HB.out|apply below_alloc|apply pw_below_drewN|apply below_drew1|refine below_set ?_ GE314.out|refine below_set ?_ GE315.out)|exact HB.out)⟩

end Go.Proofs.Ytmpnedpokdaejaa.QFnTurn
