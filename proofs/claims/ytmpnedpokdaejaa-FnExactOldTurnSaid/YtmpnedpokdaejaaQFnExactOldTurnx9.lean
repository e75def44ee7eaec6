-- Written by this session's program wip/ownprint.py.
import Derived.Test.YtmpnedpokdaejaaQFnExactOldTurnx0
import Derived.Test.YtmpnedpokdaejaaQFnExactOldTurnx8
namespace Go.Proofs.Ytmpnedpokdaejaa.QFnExactOldTurn
open Go.RowKit Go.Proofs.YtmpnedpokdaejaaW.PrintWords Go.Proofs.YtmpnedpokdaejaaW.PrintLast Go.Proofs.YtmpnedpokdaejaaW.PrintMore
attribute [local go_sem] max2_int min2_int max_two min_two max_three min_three max_four min_four   -- for this text's walks alone
set_option linter.unusedVariables false
set_option linter.unusedSimpArgs false

/-! ### laws_eqRecordS: function 64 -/
def laws_eqRecordS.l0 : Nat→List (S57)→List (S57)→Int→Option (Bool)
 | 0,_,_,_=>none
 | k + 1,x0,x1,x5=>if x5 < (x0.length : Int) then (if 0 ≤ x5 then (if x5 < (x1.length : Int) then ((laws_eqRecord.f k ((rd_T57 x0 x5).f0) ((rd_T57 x0 x5).f1) ((rd_T57 x0 x5).f2) ((rd_T57 x0 x5).f3) ((rd_T57 x0 x5).f4) ((rd_T57 x0 x5).f5) ((rd_T57 x1 x5).f0) ((rd_T57 x1 x5).f1) ((rd_T57 x1 x5).f2) ((rd_T57 x1 x5).f3) ((rd_T57 x1 x5).f4) ((rd_T57 x1 x5).f5)).bind fun t254=>(if t254=true then (laws_eqRecordS.l0 k x0 x1 (wrap64 (x5 + 1))) else (some false))) else (none)) else (none)) else (some true)
def laws_eqRecordS.f (k : Nat) (l0 : List (S57)) (l1 : List (S57)) : Option (Bool):=if (l0.length : Int)=(l1.length : Int) then (laws_eqRecordS.l0 k l0 l1 0) else (some false)
theorem laws_eqRecordS.mono_l : ∀ k,(∀ y0 y1 y2,LeO (laws_eqRecordS.l0 k y0 y1 y2) (laws_eqRecordS.l0 (k + 1) y0 y1 y2))
 | 0=>fun _ _ _ r h=>by simp [laws_eqRecordS.l0] at h
 | k + 1=>by
  have ih0:=laws_eqRecordS.mono_l k
  ·intro y0 y1 y2
   unfold laws_eqRecordS.l0
   repeat' first
   | (with_reducible exact ih0 _ _ _)
   | (with_reducible exact laws_eqRecord.mono _ _ _ _ _ _ _ _ _ _ _ _ _)
   | (with_reducible exact LeO.refl _)
   | (with_reducible exact LeO.none _)
   | (with_reducible refine LeO.ite ?_ ?_)
   | (with_reducible refine LeO.bind ?_ (fun _=>?_))
   | exact ih0 _ _ _
   | exact laws_eqRecord.mono _ _ _ _ _ _ _ _ _ _ _ _ _
   | exact LeO.none _
   | refine LeO.ite ?_ ?_
   | refine LeO.bind ?_ (fun _=>?_)
theorem laws_eqRecordS.mono : ∀ a0 a1 k,LeO (laws_eqRecordS.f k a0 a1) (laws_eqRecordS.f (k + 1) a0 a1):=by
 intro a0 a1 k
 have ih0:=laws_eqRecordS.mono_l k
 unfold laws_eqRecordS.f
 repeat' first
   | (with_reducible exact ih0 _ _ _)
   | (with_reducible exact laws_eqRecord.mono _ _ _ _ _ _ _ _ _ _ _ _ _)
   | (with_reducible exact LeO.refl _)
   | (with_reducible exact LeO.none _)
   | (with_reducible refine LeO.ite ?_ ?_)
   | (with_reducible refine LeO.bind ?_ (fun _=>?_))
   | exact ih0 _ _ _
   | exact laws_eqRecord.mono _ _ _ _ _ _ _ _ _ _ _ _ _
   | exact LeO.none _
   | refine LeO.ite ?_ ?_
   | refine LeO.bind ?_ (fun _=>?_)
def laws_eqRecordS.T6 : Bool × List (List Nat × List Nat):=(true,[([],[]),([],[]),([0,1],[0,1]),([2],[2]),([],[]),([],[]),([4,5],[4,5]),([6],[6]),([3,7],[3,7]),([8],[8])])
def laws_eqRecordS.B6 : List Nat:=[0,0,3,7,0,0,48,112,255,511]
theorem laws_eqRecordS.tab6 : rtab .any (opsOf Try.f64 6)=laws_eqRecordS.T6:=by kernel_rfl
theorem laws_eqRecordS.bits6 : waitsOk laws_eqRecordS.T6.2 laws_eqRecordS.B6=true:=by kernel_rfl
set_option maxHeartbeats 8000000 in
set_option maxRecDepth 100000 in
theorem laws_eqRecordS.calls (k : Nat) (A0 : Option Addr) (c0 : Nat) (l0 : List (S57)) (A1 : Option Addr) (c1 : Nat) (l1 : List (S57)) (r : Bool) (w : World) (hr0 : Kd.C k57 w A0 l0.length l0) (hc0 : l0.length ≤ c0) (hr1 : Kd.C k57 w A1 l1.length l1) (hc1 : l1.length ≤ c1) (h : laws_eqRecordS.f k l0 l1=some r) :
  Calls Try.prog 64 #[.slice A0 l0.length c0,.slice A1 l1.length c1] w fun e w'=>e = .returned (.bool r)∧Below w.heap.size w w':=by
 have hu57:=Try.underlying57
 have HR0:=Aside0.mk hr0
 have HC0:=Aside0.mk hc0
 clear hr0 hc0
 have HR1:=Aside0.mk hr1
 have HC1:=Aside0.mk hc1
 clear hr1 hc1
 have HB:=Aside0.mk (Below.refl w.heap.size w)
 have H : (if (l0.length : Int)=(l1.length : Int) then (laws_eqRecordS.l0 k l0 l1 0) else (some false))=some r:=h
 clear h
 by_cases c3 : (l0.length : Int)=(l1.length : Int)
 ·rw [if_pos c3] at H
  have c3b0 : ((l0.length : Int) == (l1.length : Int))=true:=beq_iff_eq.mpr c3
  have c3b1 : ((l0.length : Int) != (l1.length : Int))=false:=bne_eq_false_iff_eq.mpr c3
  have c3b2 : (l0.length == l1.length)=true:=by first|simpa using c3|(simp at c3 ⊢;omega)
  clear c3
  have H':=Aside0.mk H
  clear H
  go_enter Try.func64,Try.ntmps64
  go_wp2
  go_loopg [5] k (fun kq v5 w'=>∃ (x5_1 : Int),v5 = .int .i64 x5_1∧Aside0 (laws_eqRecordS.l0 kq l0 l1 x5_1=some r)∧Aside0 (kq ≤ k)∧Aside0 (Below w.heap.size w w'))
  case atStart=>exact ⟨(0),(by first|rfl|(simp;done)|(simp [*];done)),H',⟨Nat.le_refl _⟩,⟨by repeat (first|(with_reducible first|exact HB.out|apply below_alloc|apply pw_below_drewN|apply below_drew1)|exact HB.out)⟩⟩
  case round =>
   clear H'
   try clear c1
   try clear p2
   try clear c3
   try clear c3b0
   try clear c3b1
   try clear c3b2
   obtain ⟨x5_1,rfl,HA,HK1,HB⟩:=hrel
   cases gk with
   | zero=>exact absurd HA.out (by simp [laws_eqRecordS.l0])
   | succ k1 =>
    have H:=HA.out
    clear HA
    simp only [laws_eqRecordS.l0] at H
    by_cases c4 : x5_1 < (l0.length : Int)
    ·rw [if_pos c4] at H
     have c4b0 : decide (x5_1 < (l0.length : Int))=true:=decide_eq_true c4
     clear c4
     by_cases c5 : 0 ≤ x5_1
     ·rw [if_pos c5] at H
      have c5b0 : decide (0 ≤ x5_1)=true:=decide_eq_true c5
      clear c5
      by_cases c6 : x5_1 < (l1.length : Int)
      ·rw [if_pos c6] at H
       have c6b0 : decide (x5_1 < (l1.length : Int))=true:=decide_eq_true c6
       clear c6
       replace H:=Option.bind_eq_some_iff.mp H
       obtain ⟨t254,A70,H⟩:=H
       replace H : (if t254=true then (laws_eqRecordS.l0 k1 l0 l1 (wrap64 (x5_1 + 1))) else (some false))=some r:=H
       have A7:=Aside0.mk A70
       clear A70
       by_cases c8 : t254=true
       ·subst c8
        have H1 : (laws_eqRecordS.l0 k1 l0 l1 (wrap64 (x5_1 + 1)))=some r:=by rw [if_pos rfl] at H;exact H
        clear H
        have H:=H1
        clear H1
        have H':=Aside0.mk H
        clear H
        try go_wp2
        have n0_:=Aside0.mk (below_drew1 HB.out)
        clear HB
        have HB:=n0_
        clear n0_
        have p252 : 0 ≤ (x5_1 : Int):=of_decide_eq_true (by first|(with_reducible assumption)|assumption)
        have q252 : x5_1 < (l0.length : Int):=of_decide_eq_true (by first|(with_reducible assumption)|assumption)
        obtain ⟨ad252,A252_3,c252_3,A252_5,c252_5,e252,hx252_0,hx252_1,hx252_2,hx252_3,hx252_4,hx252_5,hl252_3,hi252_3,hl252_5,hi252_5⟩:=at_T57 HR0.out x5_1 p252 q252
        have hw252_5:=hx252_5
        have hw252_4:=hx252_4
        have hw252_3:=hx252_3
        have hw252_2:=hx252_2
        have hw252_1:=hx252_1
        have hw252_0:=hx252_0
        cases e252
        replace hx252_0:=(HB.out.cell (World.block_lt_of_cell? w _ hx252_0)).trans hx252_0
        replace hx252_1:=(HB.out.cell (World.block_lt_of_cell? w _ hx252_1)).trans hx252_1
        replace hx252_2:=(HB.out.cell (World.block_lt_of_cell? w _ hx252_2)).trans hx252_2
        replace hx252_3:=(HB.out.cell (World.block_lt_of_cell? w _ hx252_3)).trans hx252_3
        replace hx252_4:=(HB.out.cell (World.block_lt_of_cell? w _ hx252_4)).trans hx252_4
        replace hx252_5:=(HB.out.cell (World.block_lt_of_cell? w _ hx252_5)).trans hx252_5
        have HR252_3:=Aside0.mk hi252_3
        have HC252_3:=Aside0.mk hl252_3
        clear hi252_3 hl252_3
        have HR252_5:=Aside0.mk hi252_5
        have HC252_5:=Aside0.mk hl252_5
        clear hi252_5 hl252_5
        replace p252:=eq_true p252
        replace q252:=eq_true q252
        have p253 : 0 ≤ (x5_1 : Int):=of_decide_eq_true (by first|(with_reducible assumption)|assumption)
        have q253 : x5_1 < (l1.length : Int):=of_decide_eq_true (by first|(with_reducible assumption)|assumption)
        obtain ⟨ad253,A253_3,c253_3,A253_5,c253_5,e253,hx253_0,hx253_1,hx253_2,hx253_3,hx253_4,hx253_5,hl253_3,hi253_3,hl253_5,hi253_5⟩:=at_T57 HR1.out x5_1 p253 q253
        have hw253_5:=hx253_5
        have hw253_4:=hx253_4
        have hw253_3:=hx253_3
        have hw253_2:=hx253_2
        have hw253_1:=hx253_1
        have hw253_0:=hx253_0
        cases e253
        replace hx253_0:=(HB.out.cell (World.block_lt_of_cell? w _ hx253_0)).trans hx253_0
        replace hx253_1:=(HB.out.cell (World.block_lt_of_cell? w _ hx253_1)).trans hx253_1
        replace hx253_2:=(HB.out.cell (World.block_lt_of_cell? w _ hx253_2)).trans hx253_2
        replace hx253_3:=(HB.out.cell (World.block_lt_of_cell? w _ hx253_3)).trans hx253_3
        replace hx253_4:=(HB.out.cell (World.block_lt_of_cell? w _ hx253_4)).trans hx253_4
        replace hx253_5:=(HB.out.cell (World.block_lt_of_cell? w _ hx253_5)).trans hx253_5
        have HR253_3:=Aside0.mk hi253_3
        have HC253_3:=Aside0.mk hl253_3
        clear hi253_3 hl253_3
        have HR253_5:=Aside0.mk hi253_5
        have HC253_5:=Aside0.mk hl253_5
        clear hi253_5 hl253_5
        replace p253:=eq_true p253
        replace q253:=eq_true q253
        refine start_ (n:=10) (S:=fun w'=>w'.cell? (ad252.add ((x5_1).toNat * 6))=some (.int .i64 ((rd_T57 l0 x5_1).f0))∧w'.cell? ⟨(ad252.add ((x5_1).toNat * 6)).block,(ad252.add ((x5_1).toNat * 6)).off + 1,none⟩ = some (.int .i64 ((rd_T57 l0 x5_1).f1))∧w'.cell? ⟨(ad252.add ((x5_1).toNat * 6)).block,(ad252.add ((x5_1).toNat * 6)).off + 2,none⟩ = some (.bool ((rd_T57 l0 x5_1).f2))∧w'.cell? ⟨(ad252.add ((x5_1).toNat * 6)).block,(ad252.add ((x5_1).toNat * 6)).off + 3,none⟩ = some (.slice A252_3 ((rd_T57 l0 x5_1).f3).length c252_3)∧w'.cell? ⟨(ad252.add ((x5_1).toNat * 6)).block,(ad252.add ((x5_1).toNat * 6)).off + 4,none⟩ = some (.bool ((rd_T57 l0 x5_1).f4))∧w'.cell? ⟨(ad252.add ((x5_1).toNat * 6)).block,(ad252.add ((x5_1).toNat * 6)).off + 5,none⟩ = some (.slice A252_5 ((rd_T57 l0 x5_1).f5).length c252_5)∧w'.cell? (ad253.add ((x5_1).toNat * 6))=some (.int .i64 ((rd_T57 l1 x5_1).f0))∧w'.cell? ⟨(ad253.add ((x5_1).toNat * 6)).block,(ad253.add ((x5_1).toNat * 6)).off + 1,none⟩ = some (.int .i64 ((rd_T57 l1 x5_1).f1))∧w'.cell? ⟨(ad253.add ((x5_1).toNat * 6)).block,(ad253.add ((x5_1).toNat * 6)).off + 2,none⟩ = some (.bool ((rd_T57 l1 x5_1).f2))∧w'.cell? ⟨(ad253.add ((x5_1).toNat * 6)).block,(ad253.add ((x5_1).toNat * 6)).off + 3,none⟩ = some (.slice A253_3 ((rd_T57 l1 x5_1).f3).length c253_3)∧w'.cell? ⟨(ad253.add ((x5_1).toNat * 6)).block,(ad253.add ((x5_1).toNat * 6)).off + 4,none⟩ = some (.bool ((rd_T57 l1 x5_1).f4))∧w'.cell? ⟨(ad253.add ((x5_1).toNat * 6)).block,(ad253.add ((x5_1).toNat * 6)).off + 5,none⟩ = some (.slice A253_5 ((rd_T57 l1 x5_1).f5).length c253_5)) (ds:=[]) #[false,false,false,false,false,false,false,false,false,false] (by kernel_rfl) rfl rfl ⟨((HB.out.cell (World.block_lt_of_cell? w _ hw252_0)).trans hw252_0),((HB.out.cell (World.block_lt_of_cell? w _ hw252_1)).trans hw252_1),((HB.out.cell (World.block_lt_of_cell? w _ hw252_2)).trans hw252_2),((HB.out.cell (World.block_lt_of_cell? w _ hw252_3)).trans hw252_3),((HB.out.cell (World.block_lt_of_cell? w _ hw252_4)).trans hw252_4),((HB.out.cell (World.block_lt_of_cell? w _ hw252_5)).trans hw252_5),((HB.out.cell (World.block_lt_of_cell? w _ hw253_0)).trans hw253_0),((HB.out.cell (World.block_lt_of_cell? w _ hw253_1)).trans hw253_1),((HB.out.cell (World.block_lt_of_cell? w _ hw253_2)).trans hw253_2),((HB.out.cell (World.block_lt_of_cell? w _ hw253_3)).trans hw253_3),((HB.out.cell (World.block_lt_of_cell? w _ hw253_4)).trans hw253_4),((HB.out.cell (World.block_lt_of_cell? w _ hw253_5)).trans hw253_5)⟩ (fun hHeld=>?_);refine with_tabW laws_eqRecordS.tab6 laws_eqRecordS.bits6 (fun HT_ HW_=>?_)
        generalize wr.drew=w9 at HB HR252_3 HR252_5 HR253_3 HR253_5 hx252_0 hx252_1 hx252_2 hx252_3 hx252_4 hx252_5 hx253_0 hx253_1 hx253_2 hx253_3 hx253_4 hx253_5 hHeld ⊢
        refine pure_ (i:=0) (N:=some 17) (v:=?_) (a':=?_) #[true,false,false,false,false,false,false,false,false,false] rfl rfl (any_of HT_.out (by kernel_rfl)) (fun _ _ _ h=>h) (Or.inl ⟨by rfl,?_⟩) ?_ ?_
        rotate_left
        ·intro w'
         go_simp
         with_reducible rfl
        rotate_left
        ·simp only [Act.put,List.setIfInBounds_toArray,List.set_cons_zero,List.set_cons_succ,i64_w,i32_w]
         rfl
        refine pure_ (i:=1) (N:=some 18) (v:=?_) (a':=?_) #[true,true,false,false,false,false,false,false,false,false] rfl rfl (any_of HT_.out (by kernel_rfl)) (fun _ _ _ h=>h) (Or.inl ⟨by rfl,?_⟩) ?_ ?_
        rotate_left
        ·intro w'
         go_simp
         with_reducible rfl
        rotate_left
        ·simp only [Act.put,List.setIfInBounds_toArray,List.set_cons_zero,List.set_cons_succ,i64_w,i32_w]
         rfl
        refine pure_ (i:=2) (N:=some 19) (v:=?_) (a':=?_) #[true,true,true,false,false,false,false,false,false,false] rfl rfl (any_of HT_.out (by kernel_rfl)) (fun _ _ _ h=>h) (Or.inl ⟨by rfl,?_⟩) ?_ ?_
        rotate_left
        ·intro w'
         go_simp
         with_reducible rfl
        rotate_left
        ·simp only [Act.put,List.setIfInBounds_toArray,List.set_cons_zero,List.set_cons_succ,i64_w,i32_w]
         rfl
        refine pure_ (i:=4) (N:=some 21) (v:=?_) (a':=?_) #[true,true,true,false,true,false,false,false,false,false] rfl rfl (any_of HT_.out (by kernel_rfl)) (fun _ _ _ h=>h) (Or.inl ⟨by rfl,?_⟩) ?_ ?_
        rotate_left
        ·intro w'
         go_simp
         with_reducible rfl
        rotate_left
        ·simp only [Act.put,List.setIfInBounds_toArray,List.set_cons_zero,List.set_cons_succ,i64_w,i32_w]
         rfl
        refine pure_ (i:=5) (N:=some 22) (v:=?_) (a':=?_) #[true,true,true,false,true,true,false,false,false,false] rfl rfl (any_of HT_.out (by kernel_rfl)) (fun _ _ _ h=>h) (Or.inl ⟨by rfl,?_⟩) ?_ ?_
        rotate_left
        ·intro w'
         go_simp
         with_reducible rfl
        rotate_left
        ·simp only [Act.put,List.setIfInBounds_toArray,List.set_cons_zero,List.set_cons_succ,i64_w,i32_w]
         rfl
        refine pure_ (i:=6) (N:=some 23) (v:=?_) (a':=?_) #[true,true,true,false,true,true,true,false,false,false] rfl rfl (any_of HT_.out (by kernel_rfl)) (fun _ _ _ h=>h) (Or.inl ⟨by rfl,?_⟩) ?_ ?_
        rotate_left
        ·intro w'
         go_simp
         with_reducible rfl
        rotate_left
        ·simp only [Act.put,List.setIfInBounds_toArray,List.set_cons_zero,List.set_cons_succ,i64_w,i32_w]
         rfl
        refine take_ (i:=3) (N:=some 20) (v:=?_) (a':=?_) #[true,true,true,true,true,true,true,false,false,false] rfl rfl (take_ofW HT_.out HW_.out (by kernel_rfl)) (fun _ _ _ h=>h) (Or.inl ⟨by rfl,?_⟩) hHeld ?_ ?_
        rotate_left
        ·rintro w' ⟨s0,s1,s2,s3,s4,s5,s6,s7,s8,s9,s10,s11⟩
         go_simp
         with_reducible rfl
        rotate_left
        ·simp only [Act.put,List.setIfInBounds_toArray,List.set_cons_zero,List.set_cons_succ,i64_w,i32_w]
         rfl
        refine take_ (i:=7) (N:=some 24) (v:=?_) (a':=?_) #[true,true,true,true,true,true,true,true,false,false] rfl rfl (take_ofW HT_.out HW_.out (by kernel_rfl)) (fun _ _ _ h=>h) (Or.inl ⟨by rfl,?_⟩) hHeld ?_ ?_
        rotate_left
        ·rintro w' ⟨s0,s1,s2,s3,s4,s5,s6,s7,s8,s9,s10,s11⟩
         go_simp
         with_reducible rfl
        rotate_left
        ·simp only [Act.put,List.setIfInBounds_toArray,List.set_cons_zero,List.set_cons_succ,i64_w,i32_w]
         rfl
        refine one_ (i:=8) (N:=some 25) #[true,true,true,true,true,true,true,true,true,false] rfl rfl (one_of HT_.out (by kernel_rfl)) (by decide) (fun K hK=>?_)
        refine goes_ Try.func85 (by kernel_rfl) rfl #[.agg #[.int .i64 ((rd_T57 l0 x5_1).f0),.int .i64 ((rd_T57 l0 x5_1).f1),.bool ((rd_T57 l0 x5_1).f2),.slice A252_3 ((rd_T57 l0 x5_1).f3).length c252_3,.bool ((rd_T57 l0 x5_1).f4),.slice A252_5 ((rd_T57 l0 x5_1).f5).length c252_5],.agg #[.int .i64 ((rd_T57 l1 x5_1).f0),.int .i64 ((rd_T57 l1 x5_1).f1),.bool ((rd_T57 l1 x5_1).f2),.slice A253_3 ((rd_T57 l1 x5_1).f3).length c253_3,.bool ((rd_T57 l1 x5_1).f4),.slice A253_5 ((rd_T57 l1 x5_1).f5).length c253_5]] (by rfl) rfl rfl (by (try simp only [List.map_toArray,List.map_cons,List.map_nil]);first|done|rfl|(simp only [List.length_drop,List.length_take];rfl)) ?_
        with_reducible refine (laws_eqRecord.calls k1 ((rd_T57 l0 x5_1).f0) ((rd_T57 l0 x5_1).f1) ((rd_T57 l0 x5_1).f2) _ _ ((rd_T57 l0 x5_1).f3) ((rd_T57 l0 x5_1).f4) _ _ ((rd_T57 l0 x5_1).f5) ((rd_T57 l1 x5_1).f0) ((rd_T57 l1 x5_1).f1) ((rd_T57 l1 x5_1).f2) _ _ ((rd_T57 l1 x5_1).f3) ((rd_T57 l1 x5_1).f4) _ _ ((rd_T57 l1 x5_1).f5) true _ ?side1 ?side2 ?side3 ?side4 ?side5 ?side6 ?side7 ?side8 A7.out).mono ?_
        (case side1=>repeat (first|exact (Kd.C_below HR252_3.out HB.out)|(with_reducible refine Kd.C_alloc ?_ _)|(with_reducible refine Kd.C_drewN ?_ _)|(with_reducible refine Kd.C_drew ?_)))
        (case side2=>exact HC252_3.out)
        (case side3=>repeat (first|exact (Kd.C_below HR252_5.out HB.out)|(with_reducible refine Kd.C_alloc ?_ _)|(with_reducible refine Kd.C_drewN ?_ _)|(with_reducible refine Kd.C_drew ?_)))
        (case side4=>exact HC252_5.out)
        (case side5=>repeat (first|exact (Kd.C_below HR253_3.out HB.out)|(with_reducible refine Kd.C_alloc ?_ _)|(with_reducible refine Kd.C_drewN ?_ _)|(with_reducible refine Kd.C_drew ?_)))
        (case side6=>exact HC253_3.out)
        (case side7=>repeat (first|exact (Kd.C_below HR253_5.out HB.out)|(with_reducible refine Kd.C_alloc ?_ _)|(with_reducible refine Kd.C_drewN ?_ _)|(with_reducible refine Kd.C_drew ?_)))
        (case side8=>exact HC253_5.out)
        rintro e w10 ⟨rfl,hb⟩
        refine ⟨_,rfl,?_⟩
        have n0_:=Aside0.mk (below_step (by repeat (first|(with_reducible first|exact HB.out|apply below_alloc|apply pw_below_drewN|apply below_drew1)|exact HB.out)) hb)
        clear HB
        have HB:=n0_
        clear n0_
        (try clear hb)
        (try clear hb2)
        (try clear hk)
        (try clear hi)
        refine hK.out _ _ ⟨((HB.out.cell (World.block_lt_of_cell? w _ hw252_0)).trans hw252_0),((HB.out.cell (World.block_lt_of_cell? w _ hw252_1)).trans hw252_1),((HB.out.cell (World.block_lt_of_cell? w _ hw252_2)).trans hw252_2),((HB.out.cell (World.block_lt_of_cell? w _ hw252_3)).trans hw252_3),((HB.out.cell (World.block_lt_of_cell? w _ hw252_4)).trans hw252_4),((HB.out.cell (World.block_lt_of_cell? w _ hw252_5)).trans hw252_5),((HB.out.cell (World.block_lt_of_cell? w _ hw253_0)).trans hw253_0),((HB.out.cell (World.block_lt_of_cell? w _ hw253_1)).trans hw253_1),((HB.out.cell (World.block_lt_of_cell? w _ hw253_2)).trans hw253_2),((HB.out.cell (World.block_lt_of_cell? w _ hw253_3)).trans hw253_3),((HB.out.cell (World.block_lt_of_cell? w _ hw253_4)).trans hw253_4),((HB.out.cell (World.block_lt_of_cell? w _ hw253_5)).trans hw253_5)⟩ (fun hHeld=>?_)
        clear hK K
        refine norm_ (a':=?_) ?_ ?_
        rotate_left
        ·show Act.put _ (some 25) _=_
         simp only [Act.put,List.setIfInBounds_toArray,List.set_cons_zero,List.set_cons_succ,i64_w,i32_w]
         rfl
        refine pure_ (i:=9) (N:=some 26) (v:=?_) (a':=?_) #[true,true,true,true,true,true,true,true,true,true] rfl rfl (any_of HT_.out (by kernel_rfl)) (fun _ _ _ h=>h) (Or.inl ⟨by rfl,?_⟩) ?_ ?_
        rotate_left
        ·intro w'
         go_simp
         with_reducible rfl
        rotate_left
        ·simp only [Act.put,List.setIfInBounds_toArray,List.set_cons_zero,List.set_cons_succ,i64_w,i32_w]
         rfl
        refine done_ (done_of HT_.out (by kernel_rfl)) ?_
        try go_wp2
        go_roundg k1
        case measure=>have:=HK1.out;omega
        case rel=>exact ⟨(wrap64 (x5_1 + 1)),(by first|rfl|(simp;done)|(simp [*];done)),H',⟨by have:=HK1.out;omega⟩,⟨by repeat (first|(with_reducible first|exact HB.out|apply below_alloc|apply pw_below_drewN|apply below_drew1)|exact HB.out)⟩⟩
       ·replace c8:=Bool.eq_false_iff.mpr c8
        subst c8
        have H1 : (some false)=some r:=by rw [if_neg (show ¬ (false=true) by decide)] at H;exact H
        clear H
        have H:=H1
        clear H1
        obtain rfl:=Option.some.inj H
        try go_wp2
        have n0_:=Aside0.mk (below_drew1 HB.out)
        clear HB
        have HB:=n0_
        clear n0_
        have p252 : 0 ≤ (x5_1 : Int):=of_decide_eq_true (by first|(with_reducible assumption)|assumption)
        have q252 : x5_1 < (l0.length : Int):=of_decide_eq_true (by first|(with_reducible assumption)|assumption)
        obtain ⟨ad252,A252_3,c252_3,A252_5,c252_5,e252,hx252_0,hx252_1,hx252_2,hx252_3,hx252_4,hx252_5,hl252_3,hi252_3,hl252_5,hi252_5⟩:=at_T57 HR0.out x5_1 p252 q252
        have hw252_5:=hx252_5
        have hw252_4:=hx252_4
        have hw252_3:=hx252_3
        have hw252_2:=hx252_2
        have hw252_1:=hx252_1
        have hw252_0:=hx252_0
        cases e252
        replace hx252_0:=(HB.out.cell (World.block_lt_of_cell? w _ hx252_0)).trans hx252_0
        replace hx252_1:=(HB.out.cell (World.block_lt_of_cell? w _ hx252_1)).trans hx252_1
        replace hx252_2:=(HB.out.cell (World.block_lt_of_cell? w _ hx252_2)).trans hx252_2
        replace hx252_3:=(HB.out.cell (World.block_lt_of_cell? w _ hx252_3)).trans hx252_3
        replace hx252_4:=(HB.out.cell (World.block_lt_of_cell? w _ hx252_4)).trans hx252_4
        replace hx252_5:=(HB.out.cell (World.block_lt_of_cell? w _ hx252_5)).trans hx252_5
        have HR252_3:=Aside0.mk hi252_3
        have HC252_3:=Aside0.mk hl252_3
        clear hi252_3 hl252_3
        have HR252_5:=Aside0.mk hi252_5
        have HC252_5:=Aside0.mk hl252_5
        clear hi252_5 hl252_5
        replace p252:=eq_true p252
        replace q252:=eq_true q252
        have p253 : 0 ≤ (x5_1 : Int):=of_decide_eq_true (by first|(with_reducible assumption)|assumption)
        have q253 : x5_1 < (l1.length : Int):=of_decide_eq_true (by first|(with_reducible assumption)|assumption)
        obtain ⟨ad253,A253_3,c253_3,A253_5,c253_5,e253,hx253_0,hx253_1,hx253_2,hx253_3,hx253_4,hx253_5,hl253_3,hi253_3,hl253_5,hi253_5⟩:=at_T57 HR1.out x5_1 p253 q253
        have hw253_5:=hx253_5
        have hw253_4:=hx253_4
        have hw253_3:=hx253_3
        have hw253_2:=hx253_2
        have hw253_1:=hx253_1
        have hw253_0:=hx253_0
        cases e253
        replace hx253_0:=(HB.out.cell (World.block_lt_of_cell? w _ hx253_0)).trans hx253_0
        replace hx253_1:=(HB.out.cell (World.block_lt_of_cell? w _ hx253_1)).trans hx253_1
        replace hx253_2:=(HB.out.cell (World.block_lt_of_cell? w _ hx253_2)).trans hx253_2
        replace hx253_3:=(HB.out.cell (World.block_lt_of_cell? w _ hx253_3)).trans hx253_3
        replace hx253_4:=(HB.out.cell (World.block_lt_of_cell? w _ hx253_4)).trans hx253_4
        replace hx253_5:=(HB.out.cell (World.block_lt_of_cell? w _ hx253_5)).trans hx253_5
        have HR253_3:=Aside0.mk hi253_3
        have HC253_3:=Aside0.mk hl253_3
        clear hi253_3 hl253_3
        have HR253_5:=Aside0.mk hi253_5
        have HC253_5:=Aside0.mk hl253_5
        clear hi253_5 hl253_5
        replace p253:=eq_true p253
        replace q253:=eq_true q253
        refine start_ (n:=10) (S:=fun w'=>w'.cell? (ad252.add ((x5_1).toNat * 6))=some (.int .i64 ((rd_T57 l0 x5_1).f0))∧w'.cell? ⟨(ad252.add ((x5_1).toNat * 6)).block,(ad252.add ((x5_1).toNat * 6)).off + 1,none⟩ = some (.int .i64 ((rd_T57 l0 x5_1).f1))∧w'.cell? ⟨(ad252.add ((x5_1).toNat * 6)).block,(ad252.add ((x5_1).toNat * 6)).off + 2,none⟩ = some (.bool ((rd_T57 l0 x5_1).f2))∧w'.cell? ⟨(ad252.add ((x5_1).toNat * 6)).block,(ad252.add ((x5_1).toNat * 6)).off + 3,none⟩ = some (.slice A252_3 ((rd_T57 l0 x5_1).f3).length c252_3)∧w'.cell? ⟨(ad252.add ((x5_1).toNat * 6)).block,(ad252.add ((x5_1).toNat * 6)).off + 4,none⟩ = some (.bool ((rd_T57 l0 x5_1).f4))∧w'.cell? ⟨(ad252.add ((x5_1).toNat * 6)).block,(ad252.add ((x5_1).toNat * 6)).off + 5,none⟩ = some (.slice A252_5 ((rd_T57 l0 x5_1).f5).length c252_5)∧w'.cell? (ad253.add ((x5_1).toNat * 6))=some (.int .i64 ((rd_T57 l1 x5_1).f0))∧w'.cell? ⟨(ad253.add ((x5_1).toNat * 6)).block,(ad253.add ((x5_1).toNat * 6)).off + 1,none⟩ = some (.int .i64 ((rd_T57 l1 x5_1).f1))∧w'.cell? ⟨(ad253.add ((x5_1).toNat * 6)).block,(ad253.add ((x5_1).toNat * 6)).off + 2,none⟩ = some (.bool ((rd_T57 l1 x5_1).f2))∧w'.cell? ⟨(ad253.add ((x5_1).toNat * 6)).block,(ad253.add ((x5_1).toNat * 6)).off + 3,none⟩ = some (.slice A253_3 ((rd_T57 l1 x5_1).f3).length c253_3)∧w'.cell? ⟨(ad253.add ((x5_1).toNat * 6)).block,(ad253.add ((x5_1).toNat * 6)).off + 4,none⟩ = some (.bool ((rd_T57 l1 x5_1).f4))∧w'.cell? ⟨(ad253.add ((x5_1).toNat * 6)).block,(ad253.add ((x5_1).toNat * 6)).off + 5,none⟩ = some (.slice A253_5 ((rd_T57 l1 x5_1).f5).length c253_5)) (ds:=[]) #[false,false,false,false,false,false,false,false,false,false] (by kernel_rfl) rfl rfl ⟨((HB.out.cell (World.block_lt_of_cell? w _ hw252_0)).trans hw252_0),((HB.out.cell (World.block_lt_of_cell? w _ hw252_1)).trans hw252_1),((HB.out.cell (World.block_lt_of_cell? w _ hw252_2)).trans hw252_2),((HB.out.cell (World.block_lt_of_cell? w _ hw252_3)).trans hw252_3),((HB.out.cell (World.block_lt_of_cell? w _ hw252_4)).trans hw252_4),((HB.out.cell (World.block_lt_of_cell? w _ hw252_5)).trans hw252_5),((HB.out.cell (World.block_lt_of_cell? w _ hw253_0)).trans hw253_0),((HB.out.cell (World.block_lt_of_cell? w _ hw253_1)).trans hw253_1),((HB.out.cell (World.block_lt_of_cell? w _ hw253_2)).trans hw253_2),((HB.out.cell (World.block_lt_of_cell? w _ hw253_3)).trans hw253_3),((HB.out.cell (World.block_lt_of_cell? w _ hw253_4)).trans hw253_4),((HB.out.cell (World.block_lt_of_cell? w _ hw253_5)).trans hw253_5)⟩ (fun hHeld=>?_);refine with_tabW laws_eqRecordS.tab6 laws_eqRecordS.bits6 (fun HT_ HW_=>?_)
        generalize wr.drew=w11 at HB HR252_3 HR252_5 HR253_3 HR253_5 hx252_0 hx252_1 hx252_2 hx252_3 hx252_4 hx252_5 hx253_0 hx253_1 hx253_2 hx253_3 hx253_4 hx253_5 hHeld ⊢
        refine pure_ (i:=0) (N:=some 17) (v:=?_) (a':=?_) #[true,false,false,false,false,false,false,false,false,false] rfl rfl (any_of HT_.out (by kernel_rfl)) (fun _ _ _ h=>h) (Or.inl ⟨by rfl,?_⟩) ?_ ?_
        rotate_left
        ·intro w'
         go_simp
         with_reducible rfl
        rotate_left
        ·simp only [Act.put,List.setIfInBounds_toArray,List.set_cons_zero,List.set_cons_succ,i64_w,i32_w]
         rfl
        refine pure_ (i:=1) (N:=some 18) (v:=?_) (a':=?_) #[true,true,false,false,false,false,false,false,false,false] rfl rfl (any_of HT_.out (by kernel_rfl)) (fun _ _ _ h=>h) (Or.inl ⟨by rfl,?_⟩) ?_ ?_
        rotate_left
        ·intro w'
         go_simp
         with_reducible rfl
        rotate_left
        ·simp only [Act.put,List.setIfInBounds_toArray,List.set_cons_zero,List.set_cons_succ,i64_w,i32_w]
         rfl
        refine pure_ (i:=2) (N:=some 19) (v:=?_) (a':=?_) #[true,true,true,false,false,false,false,false,false,false] rfl rfl (any_of HT_.out (by kernel_rfl)) (fun _ _ _ h=>h) (Or.inl ⟨by rfl,?_⟩) ?_ ?_
        rotate_left
        ·intro w'
         go_simp
         with_reducible rfl
        rotate_left
        ·simp only [Act.put,List.setIfInBounds_toArray,List.set_cons_zero,List.set_cons_succ,i64_w,i32_w]
         rfl
        refine pure_ (i:=4) (N:=some 21) (v:=?_) (a':=?_) #[true,true,true,false,true,false,false,false,false,false] rfl rfl (any_of HT_.out (by kernel_rfl)) (fun _ _ _ h=>h) (Or.inl ⟨by rfl,?_⟩) ?_ ?_
        rotate_left
        ·intro w'
         go_simp
         with_reducible rfl
        rotate_left
        ·simp only [Act.put,List.setIfInBounds_toArray,List.set_cons_zero,List.set_cons_succ,i64_w,i32_w]
         rfl
        refine pure_ (i:=5) (N:=some 22) (v:=?_) (a':=?_) #[true,true,true,false,true,true,false,false,false,false] rfl rfl (any_of HT_.out (by kernel_rfl)) (fun _ _ _ h=>h) (Or.inl ⟨by rfl,?_⟩) ?_ ?_
        rotate_left
        ·intro w'
         go_simp
         with_reducible rfl
        rotate_left
        ·simp only [Act.put,List.setIfInBounds_toArray,List.set_cons_zero,List.set_cons_succ,i64_w,i32_w]
         rfl
        refine pure_ (i:=6) (N:=some 23) (v:=?_) (a':=?_) #[true,true,true,false,true,true,true,false,false,false] rfl rfl (any_of HT_.out (by kernel_rfl)) (fun _ _ _ h=>h) (Or.inl ⟨by rfl,?_⟩) ?_ ?_
        rotate_left
        ·intro w'
         go_simp
         with_reducible rfl
        rotate_left
        ·simp only [Act.put,List.setIfInBounds_toArray,List.set_cons_zero,List.set_cons_succ,i64_w,i32_w]
         rfl
        refine take_ (i:=3) (N:=some 20) (v:=?_) (a':=?_) #[true,true,true,true,true,true,true,false,false,false] rfl rfl (take_ofW HT_.out HW_.out (by kernel_rfl)) (fun _ _ _ h=>h) (Or.inl ⟨by rfl,?_⟩) hHeld ?_ ?_
        rotate_left
        ·rintro w' ⟨s0,s1,s2,s3,s4,s5,s6,s7,s8,s9,s10,s11⟩
         go_simp
         with_reducible rfl
        rotate_left
        ·simp only [Act.put,List.setIfInBounds_toArray,List.set_cons_zero,List.set_cons_succ,i64_w,i32_w]
         rfl
        refine take_ (i:=7) (N:=some 24) (v:=?_) (a':=?_) #[true,true,true,true,true,true,true,true,false,false] rfl rfl (take_ofW HT_.out HW_.out (by kernel_rfl)) (fun _ _ _ h=>h) (Or.inl ⟨by rfl,?_⟩) hHeld ?_ ?_
        rotate_left
        ·rintro w' ⟨s0,s1,s2,s3,s4,s5,s6,s7,s8,s9,s10,s11⟩
         go_simp
         with_reducible rfl
        rotate_left
        ·simp only [Act.put,List.setIfInBounds_toArray,List.set_cons_zero,List.set_cons_succ,i64_w,i32_w]
         rfl
        refine one_ (i:=8) (N:=some 25) #[true,true,true,true,true,true,true,true,true,false] rfl rfl (one_of HT_.out (by kernel_rfl)) (by decide) (fun K hK=>?_)
        refine goes_ Try.func85 (by kernel_rfl) rfl #[.agg #[.int .i64 ((rd_T57 l0 x5_1).f0),.int .i64 ((rd_T57 l0 x5_1).f1),.bool ((rd_T57 l0 x5_1).f2),.slice A252_3 ((rd_T57 l0 x5_1).f3).length c252_3,.bool ((rd_T57 l0 x5_1).f4),.slice A252_5 ((rd_T57 l0 x5_1).f5).length c252_5],.agg #[.int .i64 ((rd_T57 l1 x5_1).f0),.int .i64 ((rd_T57 l1 x5_1).f1),.bool ((rd_T57 l1 x5_1).f2),.slice A253_3 ((rd_T57 l1 x5_1).f3).length c253_3,.bool ((rd_T57 l1 x5_1).f4),.slice A253_5 ((rd_T57 l1 x5_1).f5).length c253_5]] (by rfl) rfl rfl (by (try simp only [List.map_toArray,List.map_cons,List.map_nil]);first|done|rfl|(simp only [List.length_drop,List.length_take];rfl)) ?_
        with_reducible refine (laws_eqRecord.calls k1 ((rd_T57 l0 x5_1).f0) ((rd_T57 l0 x5_1).f1) ((rd_T57 l0 x5_1).f2) _ _ ((rd_T57 l0 x5_1).f3) ((rd_T57 l0 x5_1).f4) _ _ ((rd_T57 l0 x5_1).f5) ((rd_T57 l1 x5_1).f0) ((rd_T57 l1 x5_1).f1) ((rd_T57 l1 x5_1).f2) _ _ ((rd_T57 l1 x5_1).f3) ((rd_T57 l1 x5_1).f4) _ _ ((rd_T57 l1 x5_1).f5) false _ ?side1 ?side2 ?side3 ?side4 ?side5 ?side6 ?side7 ?side8 A7.out).mono ?_
        (case side1=>repeat (first|exact (Kd.C_below HR252_3.out HB.out)|(with_reducible refine Kd.C_alloc ?_ _)|(with_reducible refine Kd.C_drewN ?_ _)|(with_reducible refine Kd.C_drew ?_)))
        (case side2=>exact HC252_3.out)
        (case side3=>repeat (first|exact (Kd.C_below HR252_5.out HB.out)|(with_reducible refine Kd.C_alloc ?_ _)|(with_reducible refine Kd.C_drewN ?_ _)|(with_reducible refine Kd.C_drew ?_)))
        (case side4=>exact HC252_5.out)
        (case side5=>repeat (first|exact (Kd.C_below HR253_3.out HB.out)|(with_reducible refine Kd.C_alloc ?_ _)|(with_reducible refine Kd.C_drewN ?_ _)|(with_reducible refine Kd.C_drew ?_)))
        (case side6=>exact HC253_3.out)
        (case side7=>repeat (first|exact (Kd.C_below HR253_5.out HB.out)|(with_reducible refine Kd.C_alloc ?_ _)|(with_reducible refine Kd.C_drewN ?_ _)|(with_reducible refine Kd.C_drew ?_)))
        (case side8=>exact HC253_5.out)
        rintro e w12 ⟨rfl,hb⟩
        refine ⟨_,rfl,?_⟩
        have n0_:=Aside0.mk (below_step (by repeat (first|(with_reducible first|exact HB.out|apply below_alloc|apply pw_below_drewN|apply below_drew1)|exact HB.out)) hb)
        clear HB
        have HB:=n0_
        clear n0_
        (try clear hb)
        (try clear hb2)
        (try clear hk)
        (try clear hi)
        refine hK.out _ _ ⟨((HB.out.cell (World.block_lt_of_cell? w _ hw252_0)).trans hw252_0),((HB.out.cell (World.block_lt_of_cell? w _ hw252_1)).trans hw252_1),((HB.out.cell (World.block_lt_of_cell? w _ hw252_2)).trans hw252_2),((HB.out.cell (World.block_lt_of_cell? w _ hw252_3)).trans hw252_3),((HB.out.cell (World.block_lt_of_cell? w _ hw252_4)).trans hw252_4),((HB.out.cell (World.block_lt_of_cell? w _ hw252_5)).trans hw252_5),((HB.out.cell (World.block_lt_of_cell? w _ hw253_0)).trans hw253_0),((HB.out.cell (World.block_lt_of_cell? w _ hw253_1)).trans hw253_1),((HB.out.cell (World.block_lt_of_cell? w _ hw253_2)).trans hw253_2),((HB.out.cell (World.block_lt_of_cell? w _ hw253_3)).trans hw253_3),((HB.out.cell (World.block_lt_of_cell? w _ hw253_4)).trans hw253_4),((HB.out.cell (World.block_lt_of_cell? w _ hw253_5)).trans hw253_5)⟩ (fun hHeld=>?_)
        clear hK K
        refine norm_ (a':=?_) ?_ ?_
        rotate_left
        ·show Act.put _ (some 25) _=_
         simp only [Act.put,List.setIfInBounds_toArray,List.set_cons_zero,List.set_cons_succ,i64_w,i32_w]
         rfl
        refine pure_ (i:=9) (N:=some 26) (v:=?_) (a':=?_) #[true,true,true,true,true,true,true,true,true,true] rfl rfl (any_of HT_.out (by kernel_rfl)) (fun _ _ _ h=>h) (Or.inl ⟨by rfl,?_⟩) ?_ ?_
        rotate_left
        ·intro w'
         go_simp
         with_reducible rfl
        rotate_left
        ·simp only [Act.put,List.setIfInBounds_toArray,List.set_cons_zero,List.set_cons_succ,i64_w,i32_w]
         rfl
        refine done_ (done_of HT_.out (by kernel_rfl)) ?_
        try go_wp2
        go_ret
        exact ⟨by first|rfl|(simp [errW_none,errW_some] <;> rfl)|(simp [*,errW_none,errW_some] <;> rfl),by repeat (first|(with_reducible first|exact HB.out|apply below_alloc|apply pw_below_drewN|apply below_drew1)|exact HB.out)⟩
      ·rw [if_neg c6] at H
       exact absurd H (by simp)
     ·rw [if_neg c5] at H
      exact absurd H (by simp)
    ·rw [if_neg c4] at H
     have c4b0 : decide (x5_1 < (l0.length : Int))=false:=decide_eq_false c4
     clear c4
     obtain rfl:=Option.some.inj H
     go_wp2
     go_ret
     exact ⟨by first|rfl|(simp [errW_none,errW_some] <;> rfl)|(simp [*,errW_none,errW_some] <;> rfl),by repeat (first|(with_reducible first|exact HB.out|apply below_alloc|apply pw_below_drewN|apply below_drew1)|exact HB.out)⟩
 ·rw [if_neg c3] at H
  have c3b0 : ((l0.length : Int) == (l1.length : Int))=false:=beq_eq_false_iff_ne.mpr c3
  have c3b1 : ((l0.length : Int) != (l1.length : Int))=true:=bne_iff_ne.mpr c3
  have c3b2 : (l0.length == l1.length)=false:=by first|simpa using c3|(simp at c3 ⊢;omega)
  obtain rfl:=Option.some.inj H
  go_enter Try.func64,Try.ntmps64
  go_wp2
  go_ret
  exact ⟨by first|rfl|(simp [errW_none,errW_some] <;> rfl)|(simp [*,errW_none,errW_some] <;> rfl),by repeat (first|(with_reducible first|exact HB.out|apply below_alloc|apply pw_below_drewN|apply below_drew1)|exact HB.out)⟩

/-! ### laws_eqBatch: function 26 -/
def laws_eqBatch.f (k : Nat) (a0_0 : Bool) (a0_1 : Bool) (a0_2 : Int) (a0_3 : Int) (a0_4 : Int) (l0_5 : List (S57)) (a1_0 : Bool) (a1_1 : Bool) (a1_2 : Int) (a1_3 : Int) (a1_4 : Int) (l1_5 : List (S57)) : Option (Bool):=if (a0_0 != a1_0)=true then (some false) else (if (a0_1 != a1_1)=true then (some false) else (if a0_2=a1_2 then (if a0_3=a1_3 then (if a0_4=a1_4 then ((laws_eqRecordS.f k l0_5 l1_5).bind fun t257=>(if t257=true then (some true) else (some false))) else (some false)) else (some false)) else (some false)))
theorem laws_eqBatch.mono : ∀ a0 a1 a2 a3 a4 a5 a6 a7 a8 a9 a10 a11 k,LeO (laws_eqBatch.f k a0 a1 a2 a3 a4 a5 a6 a7 a8 a9 a10 a11) (laws_eqBatch.f (k + 1) a0 a1 a2 a3 a4 a5 a6 a7 a8 a9 a10 a11):=by
 intro a0 a1 a2 a3 a4 a5 a6 a7 a8 a9 a10 a11 k
 unfold laws_eqBatch.f
 repeat' first
   | (with_reducible exact laws_eqRecordS.mono _ _ _)
   | (with_reducible exact LeO.refl _)
   | (with_reducible exact LeO.none _)
   | (with_reducible refine LeO.ite ?_ ?_)
   | (with_reducible refine LeO.bind ?_ (fun _=>?_))
   | exact laws_eqRecordS.mono _ _ _
   | exact LeO.none _
   | refine LeO.ite ?_ ?_
   | refine LeO.bind ?_ (fun _=>?_)
set_option maxHeartbeats 8000000 in
set_option maxRecDepth 100000 in
theorem laws_eqBatch.calls (k : Nat) (a0_0 : Bool) (a0_1 : Bool) (a0_2 : Int) (a0_3 : Int) (a0_4 : Int) (A0_5 : Option Addr) (c0_5 : Nat) (l0_5 : List (S57)) (a1_0 : Bool) (a1_1 : Bool) (a1_2 : Int) (a1_3 : Int) (a1_4 : Int) (A1_5 : Option Addr) (c1_5 : Nat) (l1_5 : List (S57)) (r : Bool) (w : World) (hr0_5 : Kd.C k57 w A0_5 l0_5.length l0_5) (hc0_5 : l0_5.length ≤ c0_5) (hr1_5 : Kd.C k57 w A1_5 l1_5.length l1_5) (hc1_5 : l1_5.length ≤ c1_5) (h : laws_eqBatch.f k a0_0 a0_1 a0_2 a0_3 a0_4 l0_5 a1_0 a1_1 a1_2 a1_3 a1_4 l1_5=some r) :
  Calls Try.prog 26 #[.agg #[.bool a0_0,.bool a0_1,.int .i64 a0_2,.int .i64 a0_3,.int .i64 a0_4,.slice A0_5 l0_5.length c0_5],.agg #[.bool a1_0,.bool a1_1,.int .i64 a1_2,.int .i64 a1_3,.int .i64 a1_4,.slice A1_5 l1_5.length c1_5]] w fun e w'=>e = .returned (.bool r)∧Below w.heap.size w w':=by
 have hu39:=Try.underlying39
 have HR0_5:=Aside0.mk hr0_5
 have HC0_5:=Aside0.mk hc0_5
 clear hr0_5 hc0_5
 have HR1_5:=Aside0.mk hr1_5
 have HC1_5:=Aside0.mk hc1_5
 clear hr1_5 hc1_5
 have HB:=Aside0.mk (Below.refl w.heap.size w)
 have H : (if (a0_0 != a1_0)=true then (some false) else (if (a0_1 != a1_1)=true then (some false) else (if a0_2=a1_2 then (if a0_3=a1_3 then (if a0_4=a1_4 then ((laws_eqRecordS.f k l0_5 l1_5).bind fun t257=>(if t257=true then (some true) else (some false))) else (some false)) else (some false)) else (some false))))=some r:=h
 clear h
 by_cases c3 : (a0_0 != a1_0)=true
 ·rw [if_pos c3] at H
  have c3b0 : (a0_0 != a1_0)=true:=c3
  (try (have c3b1 : decide (a0_0=a1_0)=false:=by simpa using c3))
  (try (have c3b2 : (a0_0 == a1_0)=false:=by simpa using c3))
  (try (have c3b3 : ¬ (a0_0=a1_0):=by simpa using c3))
  clear c3
  obtain rfl:=Option.some.inj H
  go_enter Try.func26,Try.ntmps26
  go_wp2_with (first|((with_reducible refine gate_dst (N:=2) rfl ?_);refine box_event ?hg (N:=2) ?hd (cs:=#[.bool a0_0,.bool a0_1,.int .i64 a0_2,.int .i64 a0_3,.int .i64 a0_4,.slice A0_5 l0_5.length c0_5]) (t:=39) ?hr ?_;(case hd=>rfl);(case hg=>rfl);(case hr=>first|(go_simp;done)|(go_simp;rfl));intro gb255 hg w4 hbox hb;have n0_:=Aside0.mk (below_step (by repeat (first|(with_reducible first|exact HB.out|apply below_alloc|apply pw_below_drewN|apply below_drew1)|exact HB.out)) hb);have n1_:=Aside0.mk (hbox);have n2_:=Aside0.mk ((by rw [hg];exact (below_size (by repeat (first|(with_reducible first|exact HB.out|apply below_alloc|apply pw_below_drewN|apply below_drew1)|exact HB.out))) : w.heap.size ≤ gb255));have n3_:=Aside0.mk ((by rw [hg];exact (below_size (by repeat (first|(with_reducible first|exact HB.out|apply below_alloc|apply pw_below_drewN|apply below_drew1)|exact HB.out))) : w.heap.size ≤ gb255));clear HB;have HB:=n0_;have BK255:=n1_;have GW255:=n2_;have GE255:=n3_;clear n0_ n1_ n2_ n3_;clear hb hbox hg)|((with_reducible refine gate_dst (N:=3) rfl ?_);refine box_event ?hg (N:=3) ?hd (cs:=#[.bool a1_0,.bool a1_1,.int .i64 a1_2,.int .i64 a1_3,.int .i64 a1_4,.slice A1_5 l1_5.length c1_5]) (t:=39) ?hr ?_;(case hd=>rfl);(case hg=>rfl);(case hr=>first|(go_simp;done)|(go_simp;rfl));intro gb256 hg w5 hbox hb;have n0_:=Aside0.mk (blk_below (g:=gb255) (o:=.cells #[.bool a0_0,.bool a0_1,.int .i64 a0_2,.int .i64 a0_3,.int .i64 a0_4,.slice A0_5 l0_5.length c0_5] 39 (0,0)) (by (with_reducible repeat (first|refine blk_drewN ?_ _|refine blk_drew ?_|refine blk_alloc ?_ _));exact BK255.out) hb);have n1_:=Aside0.mk (below_step (by repeat (first|(with_reducible first|exact HB.out|apply below_alloc|apply pw_below_drewN|apply below_drew1|refine below_set ?_ GE255.out)|exact HB.out)) hb);have n2_:=Aside0.mk (hbox);have n3_:=Aside0.mk ((by rw [hg];exact (below_size (by repeat (first|(with_reducible first|exact HB.out|apply below_alloc|apply pw_below_drewN|apply below_drew1|refine below_set ?_ GE255.out)|exact HB.out))) : w.heap.size ≤ gb256));have n4_:=Aside0.mk ((by rw [hg];exact (below_size (by repeat (first|(with_reducible first|exact HB.out|apply below_alloc|apply pw_below_drewN|apply below_drew1|refine below_set ?_ GE255.out)|exact HB.out))) : w.heap.size ≤ gb256));have n5_:=Aside0.mk ((by rw [hg];exact Nat.ne_of_lt (blk_lt (g:=gb255) (o:=.cells #[.bool a0_0,.bool a0_1,.int .i64 a0_2,.int .i64 a0_3,.int .i64 a0_4,.slice A0_5 l0_5.length c0_5] 39 (0,0)) (by (with_reducible repeat (first|refine blk_drewN ?_ _|refine blk_drew ?_|refine blk_alloc ?_ _));exact BK255.out)) : gb255 ≠ gb256));have n6_:=Aside0.mk ((by rw [hg];exact Nat.ne_of_gt (blk_lt (g:=gb255) (o:=.cells #[.bool a0_0,.bool a0_1,.int .i64 a0_2,.int .i64 a0_3,.int .i64 a0_4,.slice A0_5 l0_5.length c0_5] 39 (0,0)) (by (with_reducible repeat (first|refine blk_drewN ?_ _|refine blk_drew ?_|refine blk_alloc ?_ _));exact BK255.out)) : gb256 ≠ gb255));clear BK255;clear HB;have BK255:=n0_;have HB:=n1_;have BK256:=n2_;have GW256:=n3_;have GE256:=n4_;have NB255_256:=n5_;have NB256_255:=n6_;clear n0_ n1_ n2_ n3_ n4_ n5_ n6_;clear hb hbox hg;have hnb6:=NB255_256.out;have hnc6:=NB256_255.out;have hcz7_0 : w5.cell? ⟨gb255,0,none⟩ = some (.bool a0_0):=(blk_cell BK255.out 0).trans rfl;have hcz7_1 : w5.cell? ⟨gb255,1,none⟩ = some (.bool a0_1):=(blk_cell BK255.out 1).trans rfl;have hcz7_2 : w5.cell? ⟨gb255,2,none⟩ = some (.int .i64 a0_2):=(blk_cell BK255.out 2).trans rfl;have hcz7_3 : w5.cell? ⟨gb255,3,none⟩ = some (.int .i64 a0_3):=(blk_cell BK255.out 3).trans rfl;have hcz7_4 : w5.cell? ⟨gb255,4,none⟩ = some (.int .i64 a0_4):=(blk_cell BK255.out 4).trans rfl;have hcz7_5 : w5.cell? ⟨gb255,5,none⟩ = some (.slice A0_5 l0_5.length c0_5):=(blk_cell BK255.out 5).trans rfl;have hfz7_0:=blk_frozen BK255.out 0;have hfz7_1:=blk_frozen BK255.out 1;have hfz7_2:=blk_frozen BK255.out 2;have hfz7_3:=blk_frozen BK255.out 3;have hfz7_4:=blk_frozen BK255.out 4;have hfz7_5:=blk_frozen BK255.out 5;have hcz8_0 : w5.cell? ⟨gb256,0,none⟩ = some (.bool a1_0):=(blk_cell BK256.out 0).trans rfl;have hcz8_1 : w5.cell? ⟨gb256,1,none⟩ = some (.bool a1_1):=(blk_cell BK256.out 1).trans rfl;have hcz8_2 : w5.cell? ⟨gb256,2,none⟩ = some (.int .i64 a1_2):=(blk_cell BK256.out 2).trans rfl;have hcz8_3 : w5.cell? ⟨gb256,3,none⟩ = some (.int .i64 a1_3):=(blk_cell BK256.out 3).trans rfl;have hcz8_4 : w5.cell? ⟨gb256,4,none⟩ = some (.int .i64 a1_4):=(blk_cell BK256.out 4).trans rfl;have hcz8_5 : w5.cell? ⟨gb256,5,none⟩ = some (.slice A1_5 l1_5.length c1_5):=(blk_cell BK256.out 5).trans rfl;have hfz8_0:=blk_frozen BK256.out 0;have hfz8_1:=blk_frozen BK256.out 1;have hfz8_2:=blk_frozen BK256.out 2;have hfz8_3:=blk_frozen BK256.out 3;have hfz8_4:=blk_frozen BK256.out 4;have hfz8_5:=blk_frozen BK256.out 5))
  go_ret
  exact ⟨by first|rfl|(simp [errW_none,errW_some] <;> rfl)|(simp [*,errW_none,errW_some] <;> rfl),by repeat (first|(with_reducible first|exact HB.out|apply below_alloc|apply pw_below_drewN|apply below_drew1|refine below_set ?_ GE255.out|refine below_set ?_ GE256.out)|exact HB.out)⟩
 ·rw [if_neg c3] at H
  have c3b0 : (a0_0 != a1_0)=false:=by simpa using c3
  (try (have c3b1 : decide (a0_0=a1_0)=true:=by simpa using c3))
  (try (have c3b2 : (a0_0 == a1_0)=true:=by simpa using c3))
  clear c3
  by_cases c9 : (a0_1 != a1_1)=true
  ·rw [if_pos c9] at H
   have c9b0 : (a0_1 != a1_1)=true:=c9
   (try (have c9b1 : decide (a0_1=a1_1)=false:=by simpa using c9))
   (try (have c9b2 : (a0_1 == a1_1)=false:=by simpa using c9))
   (try (have c9b3 : ¬ (a0_1=a1_1):=by simpa using c9))
   clear c9
   obtain rfl:=Option.some.inj H
   go_enter Try.func26,Try.ntmps26
   go_wp2_with (first|((with_reducible refine gate_dst (N:=2) rfl ?_);refine box_event ?hg (N:=2) ?hd (cs:=#[.bool a0_0,.bool a0_1,.int .i64 a0_2,.int .i64 a0_3,.int .i64 a0_4,.slice A0_5 l0_5.length c0_5]) (t:=39) ?hr ?_;(case hd=>rfl);(case hg=>rfl);(case hr=>first|(go_simp;done)|(go_simp;rfl));intro gb255 hg w10 hbox hb;have n0_:=Aside0.mk (below_step (by repeat (first|(with_reducible first|exact HB.out|apply below_alloc|apply pw_below_drewN|apply below_drew1)|exact HB.out)) hb);have n1_:=Aside0.mk (hbox);have n2_:=Aside0.mk ((by rw [hg];exact (below_size (by repeat (first|(with_reducible first|exact HB.out|apply below_alloc|apply pw_below_drewN|apply below_drew1)|exact HB.out))) : w.heap.size ≤ gb255));have n3_:=Aside0.mk ((by rw [hg];exact (below_size (by repeat (first|(with_reducible first|exact HB.out|apply below_alloc|apply pw_below_drewN|apply below_drew1)|exact HB.out))) : w.heap.size ≤ gb255));clear HB;have HB:=n0_;have BK255:=n1_;have GW255:=n2_;have GE255:=n3_;clear n0_ n1_ n2_ n3_;clear hb hbox hg)|((with_reducible refine gate_dst (N:=3) rfl ?_);refine box_event ?hg (N:=3) ?hd (cs:=#[.bool a1_0,.bool a1_1,.int .i64 a1_2,.int .i64 a1_3,.int .i64 a1_4,.slice A1_5 l1_5.length c1_5]) (t:=39) ?hr ?_;(case hd=>rfl);(case hg=>rfl);(case hr=>first|(go_simp;done)|(go_simp;rfl));intro gb256 hg w11 hbox hb;have n0_:=Aside0.mk (blk_below (g:=gb255) (o:=.cells #[.bool a0_0,.bool a0_1,.int .i64 a0_2,.int .i64 a0_3,.int .i64 a0_4,.slice A0_5 l0_5.length c0_5] 39 (0,0)) (by (with_reducible repeat (first|refine blk_drewN ?_ _|refine blk_drew ?_|refine blk_alloc ?_ _));exact BK255.out) hb);have n1_:=Aside0.mk (below_step (by repeat (first|(with_reducible first|exact HB.out|apply below_alloc|apply pw_below_drewN|apply below_drew1|refine below_set ?_ GE255.out)|exact HB.out)) hb);have n2_:=Aside0.mk (hbox);have n3_:=Aside0.mk ((by rw [hg];exact (below_size (by repeat (first|(with_reducible first|exact HB.out|apply below_alloc|apply pw_below_drewN|apply below_drew1|refine below_set ?_ GE255.out)|exact HB.out))) : w.heap.size ≤ gb256));have n4_:=Aside0.mk ((by rw [hg];exact (below_size (by repeat (first|(with_reducible first|exact HB.out|apply below_alloc|apply pw_below_drewN|apply below_drew1|refine below_set ?_ GE255.out)|exact HB.out))) : w.heap.size ≤ gb256));have n5_:=Aside0.mk ((by rw [hg];exact Nat.ne_of_lt (blk_lt (g:=gb255) (o:=.cells #[.bool a0_0,.bool a0_1,.int .i64 a0_2,.int .i64 a0_3,.int .i64 a0_4,.slice A0_5 l0_5.length c0_5] 39 (0,0)) (by (with_reducible repeat (first|refine blk_drewN ?_ _|refine blk_drew ?_|refine blk_alloc ?_ _));exact BK255.out)) : gb255 ≠ gb256));have n6_:=Aside0.mk ((by rw [hg];exact Nat.ne_of_gt (blk_lt (g:=gb255) (o:=.cells #[.bool a0_0,.bool a0_1,.int .i64 a0_2,.int .i64 a0_3,.int .i64 a0_4,.slice A0_5 l0_5.length c0_5] 39 (0,0)) (by (with_reducible repeat (first|refine blk_drewN ?_ _|refine blk_drew ?_|refine blk_alloc ?_ _));exact BK255.out)) : gb256 ≠ gb255));clear BK255;clear HB;have BK255:=n0_;have HB:=n1_;have BK256:=n2_;have GW256:=n3_;have GE256:=n4_;have NB255_256:=n5_;have NB256_255:=n6_;clear n0_ n1_ n2_ n3_ n4_ n5_ n6_;clear hb hbox hg;have hnb12:=NB255_256.out;have hnc12:=NB256_255.out;have hcz13_0 : w11.cell? ⟨gb255,0,none⟩ = some (.bool a0_0):=(blk_cell BK255.out 0).trans rfl;have hcz13_1 : w11.cell? ⟨gb255,1,none⟩ = some (.bool a0_1):=(blk_cell BK255.out 1).trans rfl;have hcz13_2 : w11.cell? ⟨gb255,2,none⟩ = some (.int .i64 a0_2):=(blk_cell BK255.out 2).trans rfl;have hcz13_3 : w11.cell? ⟨gb255,3,none⟩ = some (.int .i64 a0_3):=(blk_cell BK255.out 3).trans rfl;have hcz13_4 : w11.cell? ⟨gb255,4,none⟩ = some (.int .i64 a0_4):=(blk_cell BK255.out 4).trans rfl;have hcz13_5 : w11.cell? ⟨gb255,5,none⟩ = some (.slice A0_5 l0_5.length c0_5):=(blk_cell BK255.out 5).trans rfl;have hfz13_0:=blk_frozen BK255.out 0;have hfz13_1:=blk_frozen BK255.out 1;have hfz13_2:=blk_frozen BK255.out 2;have hfz13_3:=blk_frozen BK255.out 3;have hfz13_4:=blk_frozen BK255.out 4;have hfz13_5:=blk_frozen BK255.out 5;have hcz14_0 : w11.cell? ⟨gb256,0,none⟩ = some (.bool a1_0):=(blk_cell BK256.out 0).trans rfl;have hcz14_1 : w11.cell? ⟨gb256,1,none⟩ = some (.bool a1_1):=(blk_cell BK256.out 1).trans rfl;have hcz14_2 : w11.cell? ⟨gb256,2,none⟩ = some (.int .i64 a1_2):=(blk_cell BK256.out 2).trans rfl;have hcz14_3 : w11.cell? ⟨gb256,3,none⟩ = some (.int .i64 a1_3):=(blk_cell BK256.out 3).trans rfl;have hcz14_4 : w11.cell? ⟨gb256,4,none⟩ = some (.int .i64 a1_4):=(blk_cell BK256.out 4).trans rfl;have hcz14_5 : w11.cell? ⟨gb256,5,none⟩ = some (.slice A1_5 l1_5.length c1_5):=(blk_cell BK256.out 5).trans rfl;have hfz14_0:=blk_frozen BK256.out 0;have hfz14_1:=blk_frozen BK256.out 1;have hfz14_2:=blk_frozen BK256.out 2;have hfz14_3:=blk_frozen BK256.out 3;have hfz14_4:=blk_frozen BK256.out 4;have hfz14_5:=blk_frozen BK256.out 5))
   go_ret
   exact ⟨by first|rfl|(simp [errW_none,errW_some] <;> rfl)|(simp [*,errW_none,errW_some] <;> rfl),by repeat (first|(with_reducible first|exact HB.out|apply below_alloc|apply pw_below_drewN|apply below_drew1|refine below_set ?_ GE255.out|refine below_set ?_ GE256.out)|exact HB.out)⟩
  ·rw [if_neg c9] at H
   have c9b0 : (a0_1 != a1_1)=false:=by simpa using c9
   (try (have c9b1 : decide (a0_1=a1_1)=true:=by simpa using c9))
   (try (have c9b2 : (a0_1 == a1_1)=true:=by simpa using c9))
   clear c9
   by_cases c15 : a0_2=a1_2
   ·rw [if_pos c15] at H
    have c15b0 : (a0_2 == a1_2)=true:=beq_iff_eq.mpr c15
    have c15b1 : (a0_2 != a1_2)=false:=bne_eq_false_iff_eq.mpr c15
    clear c15
    by_cases c16 : a0_3=a1_3
    ·rw [if_pos c16] at H
     have c16b0 : (a0_3 == a1_3)=true:=beq_iff_eq.mpr c16
     have c16b1 : (a0_3 != a1_3)=false:=bne_eq_false_iff_eq.mpr c16
     clear c16
     by_cases c17 : a0_4=a1_4
     ·rw [if_pos c17] at H
      have c17b0 : (a0_4 == a1_4)=true:=beq_iff_eq.mpr c17
      have c17b1 : (a0_4 != a1_4)=false:=bne_eq_false_iff_eq.mpr c17
      clear c17
      replace H:=Option.bind_eq_some_iff.mp H
      obtain ⟨t257,A180,H⟩:=H
      replace H : (if t257=true then (some true) else (some false))=some r:=H
      have A18:=Aside0.mk A180
      clear A180
      by_cases c19 : t257=true
      ·subst c19
       have H1 : (some true)=some r:=by rw [if_pos rfl] at H;exact H
       clear H
       have H:=H1
       clear H1
       obtain rfl:=Option.some.inj H
       go_enter Try.func26,Try.ntmps26
       go_wp2_with (first|((with_reducible refine gate_dst (N:=2) rfl ?_);refine box_event ?hg (N:=2) ?hd (cs:=#[.bool a0_0,.bool a0_1,.int .i64 a0_2,.int .i64 a0_3,.int .i64 a0_4,.slice A0_5 l0_5.length c0_5]) (t:=39) ?hr ?_;(case hd=>rfl);(case hg=>rfl);(case hr=>first|(go_simp;done)|(go_simp;rfl));intro gb255 hg w20 hbox hb;have n0_:=Aside0.mk (below_step (by repeat (first|(with_reducible first|exact HB.out|apply below_alloc|apply pw_below_drewN|apply below_drew1)|exact HB.out)) hb);have n1_:=Aside0.mk (hbox);have n2_:=Aside0.mk ((by rw [hg];exact (below_size (by repeat (first|(with_reducible first|exact HB.out|apply below_alloc|apply pw_below_drewN|apply below_drew1)|exact HB.out))) : w.heap.size ≤ gb255));have n3_:=Aside0.mk ((by rw [hg];exact (below_size (by repeat (first|(with_reducible first|exact HB.out|apply below_alloc|apply pw_below_drewN|apply below_drew1)|exact HB.out))) : w.heap.size ≤ gb255));clear HB;have HB:=n0_;have BK255:=n1_;have GW255:=n2_;have GE255:=n3_;clear n0_ n1_ n2_ n3_;clear hb hbox hg)|((with_reducible refine gate_dst (N:=3) rfl ?_);refine box_event ?hg (N:=3) ?hd (cs:=#[.bool a1_0,.bool a1_1,.int .i64 a1_2,.int .i64 a1_3,.int .i64 a1_4,.slice A1_5 l1_5.length c1_5]) (t:=39) ?hr ?_;(case hd=>rfl);(case hg=>rfl);(case hr=>first|(go_simp;done)|(go_simp;rfl));intro gb256 hg w21 hbox hb;have n0_:=Aside0.mk (blk_below (g:=gb255) (o:=.cells #[.bool a0_0,.bool a0_1,.int .i64 a0_2,.int .i64 a0_3,.int .i64 a0_4,.slice A0_5 l0_5.length c0_5] 39 (0,0)) (by (with_reducible repeat (first|refine blk_drewN ?_ _|refine blk_drew ?_|refine blk_alloc ?_ _));exact BK255.out) hb);have n1_:=Aside0.mk (below_step (by repeat (first|(with_reducible first|exact HB.out|apply below_alloc|apply pw_below_drewN|apply below_drew1|refine below_set ?_ GE255.out)|exact HB.out)) hb);have n2_:=Aside0.mk (hbox);have n3_:=Aside0.mk ((by rw [hg];exact (below_size (by repeat (first|(with_reducible first|exact HB.out|apply below_alloc|apply pw_below_drewN|apply below_drew1|refine below_set ?_ GE255.out)|exact HB.out))) : w.heap.size ≤ gb256));have n4_:=Aside0.mk ((by rw [hg];exact (below_size (by repeat (first|(with_reducible first|exact HB.out|apply below_alloc|apply pw_below_drewN|apply below_drew1|refine below_set ?_ GE255.out)|exact HB.out))) : w.heap.size ≤ gb256));have n5_:=Aside0.mk ((by rw [hg];exact Nat.ne_of_lt (blk_lt (g:=gb255) (o:=.cells #[.bool a0_0,.bool a0_1,.int .i64 a0_2,.int .i64 a0_3,.int .i64 a0_4,.slice A0_5 l0_5.length c0_5] 39 (0,0)) (by (with_reducible repeat (first|refine blk_drewN ?_ _|refine blk_drew ?_|refine blk_alloc ?_ _));exact BK255.out)) : gb255 ≠ gb256));have n6_:=Aside0.mk ((by rw [hg];exact Nat.ne_of_gt (blk_lt (g:=gb255) (o:=.cells #[.bool a0_0,.bool a0_1,.int .i64 a0_2,.int .i64 a0_3,.int .i64 a0_4,.slice A0_5 l0_5.length c0_5] 39 (0,0)) (by (with_reducible repeat (first|refine blk_drewN ?_ _|refine blk_drew ?_|refine blk_alloc ?_ _));exact BK255.out)) : gb256 ≠ gb255));clear BK255;clear HB;have BK255:=n0_;have HB:=n1_;have BK256:=n2_;have GW256:=n3_;have GE256:=n4_;have NB255_256:=n5_;have NB256_255:=n6_;clear n0_ n1_ n2_ n3_ n4_ n5_ n6_;clear hb hbox hg;have hnb22:=NB255_256.out;have hnc22:=NB256_255.out;have hcz23_0 : w21.cell? ⟨gb255,0,none⟩ = some (.bool a0_0):=(blk_cell BK255.out 0).trans rfl;have hcz23_1 : w21.cell? ⟨gb255,1,none⟩ = some (.bool a0_1):=(blk_cell BK255.out 1).trans rfl;have hcz23_2 : w21.cell? ⟨gb255,2,none⟩ = some (.int .i64 a0_2):=(blk_cell BK255.out 2).trans rfl;have hcz23_3 : w21.cell? ⟨gb255,3,none⟩ = some (.int .i64 a0_3):=(blk_cell BK255.out 3).trans rfl;have hcz23_4 : w21.cell? ⟨gb255,4,none⟩ = some (.int .i64 a0_4):=(blk_cell BK255.out 4).trans rfl;have hcz23_5 : w21.cell? ⟨gb255,5,none⟩ = some (.slice A0_5 l0_5.length c0_5):=(blk_cell BK255.out 5).trans rfl;have hfz23_0:=blk_frozen BK255.out 0;have hfz23_1:=blk_frozen BK255.out 1;have hfz23_2:=blk_frozen BK255.out 2;have hfz23_3:=blk_frozen BK255.out 3;have hfz23_4:=blk_frozen BK255.out 4;have hfz23_5:=blk_frozen BK255.out 5;have hcz24_0 : w21.cell? ⟨gb256,0,none⟩ = some (.bool a1_0):=(blk_cell BK256.out 0).trans rfl;have hcz24_1 : w21.cell? ⟨gb256,1,none⟩ = some (.bool a1_1):=(blk_cell BK256.out 1).trans rfl;have hcz24_2 : w21.cell? ⟨gb256,2,none⟩ = some (.int .i64 a1_2):=(blk_cell BK256.out 2).trans rfl;have hcz24_3 : w21.cell? ⟨gb256,3,none⟩ = some (.int .i64 a1_3):=(blk_cell BK256.out 3).trans rfl;have hcz24_4 : w21.cell? ⟨gb256,4,none⟩ = some (.int .i64 a1_4):=(blk_cell BK256.out 4).trans rfl;have hcz24_5 : w21.cell? ⟨gb256,5,none⟩ = some (.slice A1_5 l1_5.length c1_5):=(blk_cell BK256.out 5).trans rfl;have hfz24_0:=blk_frozen BK256.out 0;have hfz24_1:=blk_frozen BK256.out 1;have hfz24_2:=blk_frozen BK256.out 2;have hfz24_3:=blk_frozen BK256.out 3;have hfz24_4:=blk_frozen BK256.out 4;have hfz24_5:=blk_frozen BK256.out 5)|((with_reducible refine gate_callee (f:=64) rfl ?_);refine goesL_ (some 34) rfl rfl Try.func64 (by kernel_rfl) rfl #[.slice A0_5 l0_5.length c0_5,.slice A1_5 l1_5.length c1_5] rfl (by (try simp only [List.map_toArray,List.map_cons,List.map_nil]);first|done|rfl|(simp only [List.length_drop,List.length_take];rfl)) ?_;(with_reducible refine (laws_eqRecordS.calls k _ _ l0_5 _ _ l1_5 true _ ?side1 ?side2 ?side3 ?side4 A18.out).mono ?_);(case side1=>repeat (first|exact (Kd.C_below HR0_5.out HB.out)|(with_reducible refine Kd.C_alloc ?_ _)|(with_reducible refine Kd.C_drewN ?_ _)|(with_reducible refine Kd.C_drew ?_)));(case side2=>exact HC0_5.out);(case side3=>repeat (first|exact (Kd.C_below HR1_5.out HB.out)|(with_reducible refine Kd.C_alloc ?_ _)|(with_reducible refine Kd.C_drewN ?_ _)|(with_reducible refine Kd.C_drew ?_)));(case side4=>exact HC1_5.out);rintro e w25 ⟨rfl,hb⟩;refine ⟨_,rfl,?_⟩;have n0_:=Aside0.mk (blk_below (g:=gb255) (o:=.cells #[.bool a0_0,.bool a0_1,.int .i64 a0_2,.int .i64 a0_3,.int .i64 a0_4,.slice A0_5 l0_5.length c0_5] 39 (0,0)) (by (with_reducible repeat (first|refine blk_drewN ?_ _|refine blk_drew ?_|refine blk_alloc ?_ _));exact BK255.out) hb);have n1_:=Aside0.mk (blk_below (g:=gb256) (o:=.cells #[.bool a1_0,.bool a1_1,.int .i64 a1_2,.int .i64 a1_3,.int .i64 a1_4,.slice A1_5 l1_5.length c1_5] 39 (0,0)) (by (with_reducible repeat (first|refine blk_drewN ?_ _|refine blk_drew ?_|refine blk_alloc ?_ _));exact BK256.out) hb);have n2_:=Aside0.mk (below_step (by repeat (first|(with_reducible first|exact HB.out|apply below_alloc|apply pw_below_drewN|apply below_drew1|refine below_set ?_ GE255.out|refine below_set ?_ GE256.out)|exact HB.out)) hb);clear BK255;clear BK256;clear HB;have BK255:=n0_;have BK256:=n1_;have HB:=n2_;clear n0_ n1_ n2_;(try clear hb);(try clear hb2);(try clear hk);(try clear hi)))
       go_ret
       exact ⟨by first|rfl|(simp [errW_none,errW_some] <;> rfl)|(simp [*,errW_none,errW_some] <;> rfl),by repeat (first|(with_reducible first|exact HB.out|apply below_alloc|apply pw_below_drewN|apply below_drew1|refine below_set ?_ GE255.out|refine below_set ?_ GE256.out)|exact HB.out)⟩
      ·replace c19:=Bool.eq_false_iff.mpr c19
       subst c19
       have H1 : (some false)=some r:=by rw [if_neg (show ¬ (false=true) by decide)] at H;exact H
       clear H
       have H:=H1
       clear H1
       obtain rfl:=Option.some.inj H
       go_enter Try.func26,Try.ntmps26
       go_wp2_with (first|((with_reducible refine gate_dst (N:=2) rfl ?_);refine box_event ?hg (N:=2) ?hd (cs:=#[.bool a0_0,.bool a0_1,.int .i64 a0_2,.int .i64 a0_3,.int .i64 a0_4,.slice A0_5 l0_5.length c0_5]) (t:=39) ?hr ?_;(case hd=>rfl);(case hg=>rfl);(case hr=>first|(go_simp;done)|(go_simp;rfl));intro gb255 hg w26 hbox hb;have n0_:=Aside0.mk (below_step (by repeat (first|(with_reducible first|exact HB.out|apply below_alloc|apply pw_below_drewN|apply below_drew1)|exact HB.out)) hb);have n1_:=Aside0.mk (hbox);have n2_:=Aside0.mk ((by rw [hg];exact (below_size (by repeat (first|(with_reducible first|exact HB.out|apply below_alloc|apply pw_below_drewN|apply below_drew1)|exact HB.out))) : w.heap.size ≤ gb255));have n3_:=Aside0.mk ((by rw [hg];exact (below_size (by repeat (first|(with_reducible first|exact HB.out|apply below_alloc|apply pw_below_drewN|apply below_drew1)|exact HB.out))) : w.heap.size ≤ gb255));clear HB;have HB:=n0_;have BK255:=n1_;have GW255:=n2_;have GE255:=n3_;clear n0_ n1_ n2_ n3_;clear hb hbox hg)|((with_reducible refine gate_dst (N:=3) rfl ?_);refine box_event ?hg (N:=3) ?hd (cs:=#[.bool a1_0,.bool a1_1,.int .i64 a1_2,.int .i64 a1_3,.int .i64 a1_4,.slice A1_5 l1_5.length c1_5]) (t:=39) ?hr ?_;(case hd=>rfl);(case hg=>rfl);(case hr=>first|(go_simp;done)|(go_simp;rfl));intro gb256 hg w27 hbox hb;have n0_:=Aside0.mk (blk_below (g:=gb255) (o:=.cells #[.bool a0_0,.bool a0_1,.int .i64 a0_2,.int .i64 a0_3,.int .i64 a0_4,.slice A0_5 l0_5.length c0_5] 39 (0,0)) (by (with_reducible repeat (first|refine blk_drewN ?_ _|refine blk_drew ?_|refine blk_alloc ?_ _));exact BK255.out) hb);have n1_:=Aside0.mk (below_step (by repeat (first|(with_reducible first|exact HB.out|apply below_alloc|apply pw_below_drewN|apply below_drew1|refine below_set ?_ GE255.out)|exact HB.out)) hb);have n2_:=Aside0.mk (hbox);have n3_:=Aside0.mk ((by rw [hg];exact (below_size (by repeat (first|(with_reducible first|exact HB.out|apply below_alloc|apply pw_below_drewN|apply below_drew1|refine below_set ?_ GE255.out)|exact HB.out))) : w.heap.size ≤ gb256));have n4_:=Aside0.mk ((by rw [hg];exact (below_size (by repeat (first|(with_reducible first|exact HB.out|apply below_alloc|apply pw_below_drewN|apply below_drew1|refine below_set ?_ GE255.out)|exact HB.out))) : w.heap.size ≤ gb256));have n5_:=Aside0.mk ((by rw [hg];exact Nat.ne_of_lt (blk_lt (g:=gb255) (o:=.cells #[.bool a0_0,.bool a0_1,.int .i64 a0_2,.int .i64 a0_3,.int .i64 a0_4,.slice A0_5 l0_5.length c0_5] 39 (0,0)) (by (with_reducible repeat (first|refine blk_drewN ?_ _|refine blk_drew ?_|refine blk_alloc ?_ _));exact BK255.out)) : gb255 ≠ gb256));have n6_:=Aside0.mk ((by rw [hg];exact Nat.ne_of_gt (blk_lt (g:=gb255) (o:=.cells #[.bool a0_0,.bool a0_1,.int .i64 a0_2,.int .i64 a0_3,.int .i64 a0_4,.slice A0_5 l0_5.length c0_5] 39 (0,0)) (by (with_reducible repeat (first|refine blk_drewN ?_ _|refine blk_drew ?_|refine blk_alloc ?_ _));exact BK255.out)) : gb256 ≠ gb255));clear BK255;clear HB;have BK255:=n0_;have HB:=n1_;have BK256:=n2_;have GW256:=n3_;have GE256:=n4_;have NB255_256:=n5_;have NB256_255:=n6_;clear n0_ n1_ n2_ n3_ n4_ n5_ n6_;clear hb hbox hg;have hnb28:=NB255_256.out;have hnc28:=NB256_255.out;have hcz29_0 : w27.cell? ⟨gb255,0,none⟩ = some (.bool a0_0):=(blk_cell BK255.out 0).trans rfl;have hcz29_1 : w27.cell? ⟨gb255,1,none⟩ = some (.bool a0_1):=(blk_cell BK255.out 1).trans rfl;have hcz29_2 : w27.cell? ⟨gb255,2,none⟩ = some (.int .i64 a0_2):=(blk_cell BK255.out 2).trans rfl;have hcz29_3 : w27.cell? ⟨gb255,3,none⟩ = some (.int .i64 a0_3):=(blk_cell BK255.out 3).trans rfl;have hcz29_4 : w27.cell? ⟨gb255,4,none⟩ = some (.int .i64 a0_4):=(blk_cell BK255.out 4).trans rfl;have hcz29_5 : w27.cell? ⟨gb255,5,none⟩ = some (.slice A0_5 l0_5.length c0_5):=(blk_cell BK255.out 5).trans rfl;have hfz29_0:=blk_frozen BK255.out 0;have hfz29_1:=blk_frozen BK255.out 1;have hfz29_2:=blk_frozen BK255.out 2;have hfz29_3:=blk_frozen BK255.out 3;have hfz29_4:=blk_frozen BK255.out 4;have hfz29_5:=blk_frozen BK255.out 5;have hcz30_0 : w27.cell? ⟨gb256,0,none⟩ = some (.bool a1_0):=(blk_cell BK256.out 0).trans rfl;have hcz30_1 : w27.cell? ⟨gb256,1,none⟩ = some (.bool a1_1):=(blk_cell BK256.out 1).trans rfl;have hcz30_2 : w27.cell? ⟨gb256,2,none⟩ = some (.int .i64 a1_2):=(blk_cell BK256.out 2).trans rfl;have hcz30_3 : w27.cell? ⟨gb256,3,none⟩ = some (.int .i64 a1_3):=(blk_cell BK256.out 3).trans rfl;have hcz30_4 : w27.cell? ⟨gb256,4,none⟩ = some (.int .i64 a1_4):=(blk_cell BK256.out 4).trans rfl;have hcz30_5 : w27.cell? ⟨gb256,5,none⟩ = some (.slice A1_5 l1_5.length c1_5):=(blk_cell BK256.out 5).trans rfl;have hfz30_0:=blk_frozen BK256.out 0;have hfz30_1:=blk_frozen BK256.out 1;have hfz30_2:=blk_frozen BK256.out 2;have hfz30_3:=blk_frozen BK256.out 3;have hfz30_4:=blk_frozen BK256.out 4;have hfz30_5:=blk_frozen BK256.out 5)|((with_reducible refine gate_callee (f:=64) rfl ?_);refine goesL_ (some 34) rfl rfl Try.func64 (by kernel_rfl) rfl #[.slice A0_5 l0_5.length c0_5,.slice A1_5 l1_5.length c1_5] rfl (by (try simp only [List.map_toArray,List.map_cons,List.map_nil]);first|done|rfl|(simp only [List.length_drop,List.length_take];rfl)) ?_;(with_reducible refine (laws_eqRecordS.calls k _ _ l0_5 _ _ l1_5 false _ ?side1 ?side2 ?side3 ?side4 A18.out).mono ?_);(case side1=>repeat (first|exact (Kd.C_below HR0_5.out HB.out)|(with_reducible refine Kd.C_alloc ?_ _)|(with_reducible refine Kd.C_drewN ?_ _)|(with_reducible refine Kd.C_drew ?_)));(case side2=>exact HC0_5.out);(case side3=>repeat (first|exact (Kd.C_below HR1_5.out HB.out)|(with_reducible refine Kd.C_alloc ?_ _)|(with_reducible refine Kd.C_drewN ?_ _)|(with_reducible refine Kd.C_drew ?_)));(case side4=>exact HC1_5.out);rintro e w31 ⟨rfl,hb⟩;refine ⟨_,rfl,?_⟩;have n0_:=Aside0.mk (blk_below (g:=gb255) (o:=.cells #[.bool a0_0,.bool a0_1,.int .i64 a0_2,.int .i64 a0_3,.int .i64 a0_4,.slice A0_5 l0_5.length c0_5] 39 (0,0)) (by (with_reducible repeat (first|refine blk_drewN ?_ _|refine blk_drew ?_|refine blk_alloc ?_ _));exact BK255.out) hb);have n1_:=Aside0.mk (blk_below (g:=gb256) (o:=.cells #[.bool a1_0,.bool a1_1,.int .i64 a1_2,.int .i64 a1_3,.int .i64 a1_4,.slice A1_5 l1_5.length c1_5] 39 (0,0)) (by (with_reducible repeat (first|refine blk_drewN ?_ _|refine blk_drew ?_|refine blk_alloc ?_ _));exact BK256.out) hb);have n2_:=Aside0.mk (below_step (by repeat (first|(with_reducible first|exact HB.out|apply below_alloc|apply pw_below_drewN|apply below_drew1|refine below_set ?_ GE255.out|refine below_set ?_ GE256.out)|exact HB.out)) hb);clear BK255;clear BK256;clear HB;have BK255:=n0_;have BK256:=n1_;have HB:=n2_;clear n0_ n1_ n2_;(try clear hb);(try clear hb2);(try clear hk);(try clear hi)))
       go_ret
       exact ⟨by first|rfl|(simp [errW_none,errW_some] <;> rfl)|(simp [*,errW_none,errW_some] <;> rfl),by repeat (first|(with_reducible first|exact HB.out|apply below_alloc|apply pw_below_drewN|apply below_drew1|refine below_set ?_ GE255.out|refine below_set ?_ GE256.out)|exact HB.out)⟩
     ·rw [if_neg c17] at H
      have c17b0 : (a0_4 == a1_4)=false:=beq_eq_false_iff_ne.mpr c17
      have c17b1 : (a0_4 != a1_4)=true:=bne_iff_ne.mpr c17
      obtain rfl:=Option.some.inj H
      go_enter Try.func26,Try.ntmps26
      go_wp2_with (first|((with_reducible refine gate_dst (N:=2) rfl ?_);refine box_event ?hg (N:=2) ?hd (cs:=#[.bool a0_0,.bool a0_1,.int .i64 a0_2,.int .i64 a0_3,.int .i64 a0_4,.slice A0_5 l0_5.length c0_5]) (t:=39) ?hr ?_;(case hd=>rfl);(case hg=>rfl);(case hr=>first|(go_simp;done)|(go_simp;rfl));intro gb255 hg w32 hbox hb;have n0_:=Aside0.mk (below_step (by repeat (first|(with_reducible first|exact HB.out|apply below_alloc|apply pw_below_drewN|apply below_drew1)|exact HB.out)) hb);have n1_:=Aside0.mk (hbox);have n2_:=Aside0.mk ((by rw [hg];exact (below_size (by repeat (first|(with_reducible first|exact HB.out|apply below_alloc|apply pw_below_drewN|apply below_drew1)|exact HB.out))) : w.heap.size ≤ gb255));have n3_:=Aside0.mk ((by rw [hg];exact (below_size (by repeat (first|(with_reducible first|exact HB.out|apply below_alloc|apply pw_below_drewN|apply below_drew1)|exact HB.out))) : w.heap.size ≤ gb255));clear HB;have HB:=n0_;have BK255:=n1_;have GW255:=n2_;have GE255:=n3_;clear n0_ n1_ n2_ n3_;clear hb hbox hg)|((with_reducible refine gate_dst (N:=3) rfl ?_);refine box_event ?hg (N:=3) ?hd (cs:=#[.bool a1_0,.bool a1_1,.int .i64 a1_2,.int .i64 a1_3,.int .i64 a1_4,.slice A1_5 l1_5.length c1_5]) (t:=39) ?hr ?_;(case hd=>rfl);(case hg=>rfl);(case hr=>first|(go_simp;done)|(go_simp;rfl));intro gb256 hg w33 hbox hb;have n0_:=Aside0.mk (blk_below (g:=gb255) (o:=.cells #[.bool a0_0,.bool a0_1,.int .i64 a0_2,.int .i64 a0_3,.int .i64 a0_4,.slice A0_5 l0_5.length c0_5] 39 (0,0)) (by (with_reducible repeat (first|refine blk_drewN ?_ _|refine blk_drew ?_|refine blk_alloc ?_ _));exact BK255.out) hb);have n1_:=Aside0.mk (below_step (by repeat (first|(with_reducible first|exact HB.out|apply below_alloc|apply pw_below_drewN|apply below_drew1|refine below_set ?_ GE255.out)|exact HB.out)) hb);have n2_:=Aside0.mk (hbox);have n3_:=Aside0.mk ((by rw [hg];exact (below_size (by repeat (first|(with_reducible first|exact HB.out|apply below_alloc|apply pw_below_drewN|apply below_drew1|refine below_set ?_ GE255.out)|exact HB.out))) : w.heap.size ≤ gb256));have n4_:=Aside0.mk ((by rw [hg];exact (below_size (by repeat (first|(with_reducible first|exact HB.out|apply below_alloc|apply pw_below_drewN|apply below_drew1|refine below_set ?_ GE255.out)|exact HB.out))) : w.heap.size ≤ gb256));have n5_:=Aside0.mk ((by rw [hg];exact Nat.ne_of_lt (blk_lt (g:=gb255) (o:=.cells #[.bool a0_0,.bool a0_1,.int .i64 a0_2,.int .i64 a0_3,.int .i64 a0_4,.slice A0_5 l0_5.length c0_5] 39 (0,0)) (by (with_reducible repeat (first|refine blk_drewN ?_ _|refine blk_drew ?_|refine blk_alloc ?_ _));exact BK255.out)) : gb255 ≠ gb256));have n6_:=Aside0.mk ((by rw [hg];exact Nat.ne_of_gt (blk_lt (g:=gb255) (o:=.cells #[.bool a0_0,.bool a0_1,.int .i64 a0_2,.int .i64 a0_3,.int .i64 a0_4,.slice A0_5 l0_5.length c0_5] 39 (0,0)) (by (with_reducible repeat (first|refine blk_drewN ?_ _|refine blk_drew ?_|refine blk_alloc ?_ _));exact BK255.out)) : gb256 ≠ gb255));clear BK255;clear HB;have BK255:=n0_;have HB:=n1_;have BK256:=n2_;have GW256:=n3_;have GE256:=n4_;have NB255_256:=n5_;have NB256_255:=n6_;clear n0_ n1_ n2_ n3_ n4_ n5_ n6_;clear hb hbox hg;have hnb34:=NB255_256.out;have hnc34:=NB256_255.out;have hcz35_0 : w33.cell? ⟨gb255,0,none⟩ = some (.bool a0_0):=(blk_cell BK255.out 0).trans rfl;have hcz35_1 : w33.cell? ⟨gb255,1,none⟩ = some (.bool a0_1):=(blk_cell BK255.out 1).trans rfl;have hcz35_2 : w33.cell? ⟨gb255,2,none⟩ = some (.int .i64 a0_2):=(blk_cell BK255.out 2).trans rfl;have hcz35_3 : w33.cell? ⟨gb255,3,none⟩ = some (.int .i64 a0_3):=(blk_cell BK255.out 3).trans rfl;have hcz35_4 : w33.cell? ⟨gb255,4,none⟩ = some (.int .i64 a0_4):=(blk_cell BK255.out 4).trans rfl;have hcz35_5 : w33.cell? ⟨gb255,5,none⟩ = some (.slice A0_5 l0_5.length c0_5):=(blk_cell BK255.out 5).trans rfl;have hfz35_0:=blk_frozen BK255.out 0;have hfz35_1:=blk_frozen BK255.out 1;have hfz35_2:=blk_frozen BK255.out 2;have hfz35_3:=blk_frozen BK255.out 3;have hfz35_4:=blk_frozen BK255.out 4;have hfz35_5:=blk_frozen BK255.out 5;have hcz36_0 : w33.cell? ⟨gb256,0,none⟩ = some (.bool a1_0):=(blk_cell BK256.out 0).trans rfl;have hcz36_1 : w33.cell? ⟨gb256,1,none⟩ = some (.bool a1_1):=(blk_cell BK256.out 1).trans rfl;have hcz36_2 : w33.cell? ⟨gb256,2,none⟩ = some (.int .i64 a1_2):=(blk_cell BK256.out 2).trans rfl;have hcz36_3 : w33.cell? ⟨gb256,3,none⟩ = some (.int .i64 a1_3):=(blk_cell BK256.out 3).trans rfl;have hcz36_4 : w33.cell? ⟨gb256,4,none⟩ = some (.int .i64 a1_4):=(blk_cell BK256.out 4).trans rfl;have hcz36_5 : w33.cell? ⟨gb256,5,none⟩ = some (.slice A1_5 l1_5.length c1_5):=(blk_cell BK256.out 5).trans rfl;have hfz36_0:=blk_frozen BK256.out 0;have hfz36_1:=blk_frozen BK256.out 1;have hfz36_2:=blk_frozen BK256.out 2;have hfz36_3:=blk_frozen BK256.out 3;have hfz36_4:=blk_frozen BK256.out 4;have hfz36_5:=blk_frozen BK256.out 5))
      go_ret
      exact ⟨by first|rfl|(simp [errW_none,errW_some] <;> rfl)|(simp [*,errW_none,errW_some] <;> rfl),by repeat (first|(with_reducible first|exact HB.out|apply below_alloc|apply pw_below_drewN|apply below_drew1|refine below_set ?_ GE255.out|refine below_set ?_ GE256.out)|exact HB.out)⟩
    ·rw [if_neg c16] at H
     have c16b0 : (a0_3 == a1_3)=false:=beq_eq_false_iff_ne.mpr c16
     have c16b1 : (a0_3 != a1_3)=true:=bne_iff_ne.mpr c16
     obtain rfl:=Option.some.inj H
     go_enter Try.func26,Try.ntmps26
     go_wp2_with (first|((with_reducible refine gate_dst (N:=2) rfl ?_);refine box_event ?hg (N:=2) ?hd (cs:=#[.bool a0_0,.bool a0_1,.int .i64 a0_2,.int .i64 a0_3,.int .i64 a0_4,.slice A0_5 l0_5.length c0_5]) (t:=39) ?hr ?_;(case hd=>rfl);(case hg=>rfl);(case hr=>first|(go_simp;done)|(go_simp;rfl));intro gb255 hg w37 hbox hb;have n0_:=Aside0.mk (below_step (by repeat (first|(with_reducible first|exact HB.out|apply below_alloc|apply pw_below_drewN|apply below_drew1)|exact HB.out)) hb);have n1_:=Aside0.mk (hbox);have n2_:=Aside0.mk ((by rw [hg];exact (below_size (by repeat (first|(with_reducible first|exact HB.out|apply below_alloc|apply pw_below_drewN|apply below_drew1)|exact HB.out))) : w.heap.size ≤ gb255));have n3_:=Aside0.mk ((by rw [hg];exact (below_size (by repeat (first|(with_reducible first|exact HB.out|apply below_alloc|apply pw_below_drewN|apply below_drew1)|exact HB.out))) : w.heap.size ≤ gb255));clear HB;have HB:=n0_;have BK255:=n1_;have GW255:=n2_;have GE255:=n3_;clear n0_ n1_ n2_ n3_;clear hb hbox hg)|((with_reducible refine gate_dst (N:=3) rfl ?_);refine box_event ?hg (N:=3) ?hd (cs:=#[.bool a1_0,.bool a1_1,.int .i64 a1_2,.int .i64 a1_3,.int .i64 a1_4,.slice A1_5 l1_5.length c1_5]) (t:=39) ?hr ?_;(case hd=>rfl);(case hg=>rfl);(case hr=>first|(go_simp;done)|(go_simp;rfl));intro gb256 hg w38 hbox hb;have n0_:=Aside0.mk (blk_below (g:=gb255) (o:=.cells #[.bool a0_0,.bool a0_1,.int .i64 a0_2,.int .i64 a0_3,.int .i64 a0_4,.slice A0_5 l0_5.length c0_5] 39 (0,0)) (by (with_reducible repeat (first|refine blk_drewN ?_ _|refine blk_drew ?_|refine blk_alloc ?_ _));exact BK255.out) hb);have n1_:=Aside0.mk (below_step (by repeat (first|(with_reducible first|exact HB.out|apply below_alloc|apply pw_below_drewN|apply below_drew1|refine below_set ?_ GE255.out)|exact HB.out)) hb);have n2_:=Aside0.mk (hbox);have n3_:=Aside0.mk ((by rw [hg];exact (below_size (by repeat (first|(with_reducible first|exact HB.out|apply below_alloc|apply pw_below_drewN|apply below_drew1|refine below_set ?_ GE255.out)|exact HB.out))) : w.heap.size ≤ gb256));have n4_:=Aside0.mk ((by rw [hg];exact (below_size (by repeat (first|(with_reducible first|exact HB.out|apply below_alloc|apply pw_below_drewN|apply below_drew1|refine below_set ?_ GE255.out)|exact HB.out))) : w.heap.size ≤ gb256));have n5_:=Aside0.mk ((by rw [hg];exact Nat.ne_of_lt (blk_lt (g:=gb255) (o:=.cells #[.bool a0_0,.bool a0_1,.int .i64 a0_2,.int .i64 a0_3,.int .i64 a0_4,.slice A0_5 l0_5.length c0_5] 39 (0,0)) (by (with_reducible repeat (first|refine blk_drewN ?_ _|refine blk_drew ?_|refine blk_alloc ?_ _));exact BK255.out)) : gb255 ≠ gb256));have n6_:=Aside0.mk ((by rw [hg];exact Nat.ne_of_gt (blk_lt (g:=gb255) (o:=.cells #[.bool a0_0,.bool a0_1,.int .i64 a0_2,.int .i64 a0_3,.int .i64 a0_4,.slice A0_5 l0_5.length c0_5] 39 (0,0)) (by (with_reducible repeat (first|refine blk_drewN ?_ _|refine blk_drew ?_|refine blk_alloc ?_ _));exact BK255.out)) : gb256 ≠ gb255));clear BK255;clear HB;have BK255:=n0_;have HB:=n1_;have BK256:=n2_;have GW256:=n3_;have GE256:=n4_;have NB255_256:=n5_;have NB256_255:=n6_;clear n0_ n1_ n2_ n3_ n4_ n5_ n6_;clear hb hbox hg;have hnb39:=NB255_256.out;have hnc39:=NB256_255.out;have hcz40_0 : w38.cell? ⟨gb255,0,none⟩ = some (.bool a0_0):=(blk_cell BK255.out 0).trans rfl;have hcz40_1 : w38.cell? ⟨gb255,1,none⟩ = some (.bool a0_1):=(blk_cell BK255.out 1).trans rfl;have hcz40_2 : w38.cell? ⟨gb255,2,none⟩ = some (.int .i64 a0_2):=(blk_cell BK255.out 2).trans rfl;have hcz40_3 : w38.cell? ⟨gb255,3,none⟩ = some (.int .i64 a0_3):=(blk_cell BK255.out 3).trans rfl;have hcz40_4 : w38.cell? ⟨gb255,4,none⟩ = some (.int .i64 a0_4):=(blk_cell BK255.out 4).trans rfl;have hcz40_5 : w38.cell? ⟨gb255,5,none⟩ = some (.slice A0_5 l0_5.length c0_5):=(blk_cell BK255.out 5).trans rfl;have hfz40_0:=blk_frozen BK255.out 0;have hfz40_1:=blk_frozen BK255.out 1;have hfz40_2:=blk_frozen BK255.out 2;have hfz40_3:=blk_frozen BK255.out 3;have hfz40_4:=blk_frozen BK255.out 4;have hfz40_5:=blk_frozen BK255.out 5;have hcz41_0 : w38.cell? ⟨gb256,0,none⟩ = some (.bool a1_0):=(blk_cell BK256.out 0).trans rfl;have hcz41_1 : w38.cell? ⟨gb256,1,none⟩ = some (.bool a1_1):=(blk_cell BK256.out 1).trans rfl;have hcz41_2 : w38.cell? ⟨gb256,2,none⟩ = some (.int .i64 a1_2):=(blk_cell BK256.out 2).trans rfl;have hcz41_3 : w38.cell? ⟨gb256,3,none⟩ = some (.int .i64 a1_3):=(blk_cell BK256.out 3).trans rfl;have hcz41_4 : w38.cell? ⟨gb256,4,none⟩ = some (.int .i64 a1_4):=(blk_cell BK256.out 4).trans rfl;have hcz41_5 : w38.cell? ⟨gb256,5,none⟩ = some (.slice A1_5 l1_5.length c1_5):=(blk_cell BK256.out 5).trans rfl;have hfz41_0:=blk_frozen BK256.out 0;have hfz41_1:=blk_frozen BK256.out 1;have hfz41_2:=blk_frozen BK256.out 2;have hfz41_3:=blk_frozen BK256.out 3;have hfz41_4:=blk_frozen BK256.out 4;have hfz41_5:=blk_frozen BK256.out 5))
     go_ret
     exact ⟨by first|rfl|(simp [errW_none,errW_some] <;> rfl)|(simp [*,errW_none,errW_some] <;> rfl),by repeat (first|(with_reducible first|exact HB.out|apply below_alloc|apply pw_below_drewN|apply below_drew1|refine below_set ?_ GE255.out|refine below_set ?_ GE256.out)|exact HB.out)⟩
   ·rw [if_neg c15] at H
    have c15b0 : (a0_2 == a1_2)=false:=beq_eq_false_iff_ne.mpr c15
    have c15b1 : (a0_2 != a1_2)=true:=bne_iff_ne.mpr c15
    obtain rfl:=Option.some.inj H
    go_enter Try.func26,Try.ntmps26
    go_wp2_with (first|((with_reducible refine gate_dst (N:=2) rfl ?_);refine box_event ?hg (N:=2) ?hd (cs:=#[.bool a0_0,.bool a0_1,.int .i64 a0_2,.int .i64 a0_3,.int .i64 a0_4,.slice A0_5 l0_5.length c0_5]) (t:=39) ?hr ?_;(case hd=>rfl);(case hg=>rfl);(case hr=>first|(go_simp;done)|(go_simp;rfl));intro gb255 hg w42 hbox hb;have n0_:=Aside0.mk (below_step (by repeat (first|(with_reducible first|exact HB.out|apply below_alloc|apply pw_below_drewN|apply below_drew1)|exact HB.out)) hb);have n1_:=Aside0.mk (hbox);have n2_:=Aside0.mk ((by rw [hg];exact (below_size (by repeat (first|(with_reducible first|exact HB.out|apply below_alloc|apply pw_below_drewN|apply below_drew1)|exact HB.out))) : w.heap.size ≤ gb255));have n3_:=Aside0.mk ((by rw [hg];exact (below_size (by repeat (first|(with_reducible first|exact HB.out|apply below_alloc|apply pw_below_drewN|apply below_drew1)|exact HB.out))) : w.heap.size ≤ gb255));clear HB;have HB:=n0_;have BK255:=n1_;have GW255:=n2_;have GE255:=n3_;clear n0_ n1_ n2_ n3_;clear hb hbox hg)|((with_reducible refine gate_dst (N:=3) rfl ?_);refine box_event ?hg (N:=3) ?hd (cs:=#[.bool a1_0,.bool a1_1,.int .i64 a1_2,.int .i64 a1_3,.int .i64 a1_4,.slice A1_5 l1_5.length c1_5]) (t:=39) ?hr ?_;(case hd=>rfl);(case hg=>rfl);(case hr=>first|(go_simp;done)|(go_simp;rfl));intro gb256 hg w43 hbox hb;have n0_:=Aside0.mk (blk_below (g:=gb255) (o:=.cells #[.bool a0_0,.bool a0_1,.int .i64 a0_2,.int .i64 a0_3,.int .i64 a0_4,.slice A0_5 l0_5.length c0_5] 39 (0,0)) (by (with_reducible repeat (first|refine blk_drewN ?_ _|refine blk_drew ?_|refine blk_alloc ?_ _));exact BK255.out) hb);have n1_:=Aside0.mk (below_step (by repeat (first|(with_reducible first|exact HB.out|apply below_alloc|apply pw_below_drewN|apply below_drew1|refine below_set ?_ GE255.out)|exact HB.out)) hb);have n2_:=Aside0.mk (hbox);have n3_:=Aside0.mk ((by rw [hg];exact (below_size (by repeat (first|(with_reducible first|exact HB.out|apply below_alloc|apply pw_below_drewN|apply below_drew1|refine below_set ?_ GE255.out)|exact HB.out))) : w.heap.size ≤ gb256));have n4_:=Aside0.mk ((by rw [hg];exact (below_size (by repeat (first|(with_reducible first|exact HB.out|apply below_alloc|apply pw_below_drewN|apply below_drew1|refine below_set ?_ GE255.out)|exact HB.out))) : w.heap.size ≤ gb256));have n5_:=Aside0.mk ((by rw [hg];exact Nat.ne_of_lt (blk_lt (g:=gb255) (o:=.cells #[.bool a0_0,.bool a0_1,.int .i64 a0_2,.int .i64 a0_3,.int .i64 a0_4,.slice A0_5 l0_5.length c0_5] 39 (0,0)) (by (with_reducible repeat (first|refine blk_drewN ?_ _|refine blk_drew ?_|refine blk_alloc ?_ _));exact BK255.out)) : gb255 ≠ gb256));have n6_:=Aside0.mk ((by rw [hg];exact Nat.ne_of_gt (blk_lt (g:=gb255) (o:=.cells #[.bool a0_0,.bool a0_1,.int .i64 a0_2,.int .i64 a0_3,.int .i64 a0_4,.slice A0_5 l0_5.length c0_5] 39 (0,0)) (by (with_reducible repeat (first|refine blk_drewN ?_ _|refine blk_drew ?_|refine blk_alloc ?_ _));exact BK255.out)) : gb256 ≠ gb255));clear BK255;clear HB;have BK255:=n0_;have HB:=n1_;have BK256:=n2_;have GW256:=n3_;have GE256:=n4_;have NB255_256:=n5_;have NB256_255:=n6_;clear n0_ n1_ n2_ n3_ n4_ n5_ n6_;clear hb hbox hg;have hnb44:=NB255_256.out;have hnc44:=NB256_255.out;have hcz45_0 : w43.cell? ⟨gb255,0,none⟩ = some (.bool a0_0):=(blk_cell BK255.out 0).trans rfl;have hcz45_1 : w43.cell? ⟨gb255,1,none⟩ = some (.bool a0_1):=(blk_cell BK255.out 1).trans rfl;have hcz45_2 : w43.cell? ⟨gb255,2,none⟩ = some (.int .i64 a0_2):=(blk_cell BK255.out 2).trans rfl;have hcz45_3 : w43.cell? ⟨gb255,3,none⟩ = some (.int .i64 a0_3):=(blk_cell BK255.out 3).trans rfl;have hcz45_4 : w43.cell? ⟨gb255,4,none⟩ = some (.int .i64 a0_4):=(blk_cell BK255.out 4).trans rfl;have hcz45_5 : w43.cell? ⟨gb255,5,none⟩ = some (.slice A0_5 l0_5.length c0_5):=(blk_cell BK255.out 5).trans rfl;have hfz45_0:=blk_frozen BK255.out 0;have hfz45_1:=blk_frozen BK255.out 1;have hfz45_2:=blk_frozen BK255.out 2;have hfz45_3:=blk_frozen BK255.out 3;have hfz45_4:=blk_frozen BK255.out 4;have hfz45_5:=blk_frozen BK255.out 5;have hcz46_0 : w43.cell? ⟨gb256,0,none⟩ = some (.bool a1_0):=(blk_cell BK256.out 0).trans rfl;have hcz46_1 : w43.cell? ⟨gb256,1,none⟩ = some (.bool a1_1):=(blk_cell BK256.out 1).trans rfl;have hcz46_2 : w43.cell? ⟨gb256,2,none⟩ = some (.int .i64 a1_2):=(blk_cell BK256.out 2).trans rfl;have hcz46_3 : w43.cell? ⟨gb256,3,none⟩ = some (.int .i64 a1_3):=(blk_cell BK256.out 3).trans rfl;have hcz46_4 : w43.cell? ⟨gb256,4,none⟩ = some (.int .i64 a1_4):=(blk_cell BK256.out 4).trans rfl;have hcz46_5 : w43.cell? ⟨gb256,5,none⟩ = some (.slice A1_5 l1_5.length c1_5):=(blk_cell BK256.out 5).trans rfl;have hfz46_0:=blk_frozen BK256.out 0;have hfz46_1:=blk_frozen BK256.out 1;have hfz46_2:=blk_frozen BK256.out 2;have hfz46_3:=blk_frozen BK256.out 3;have hfz46_4:=blk_frozen BK256.out 4;have hfz46_5:=blk_frozen BK256.out 5))
    go_ret
    exact ⟨by first|rfl|(simp [errW_none,errW_some] <;> rfl)|(simp [*,errW_none,errW_some] <;> rfl),by repeat (first|(with_reducible first|exact HB.out|apply below_alloc|apply pw_below_drewN|apply below_drew1|refine below_set ?_ GE255.out|refine below_set ?_ GE256.out)|exact HB.out)⟩

/-! ### laws_eqOld: function 35 -/
def laws_eqOld.f (k : Nat) (a0_0 : Int) (a0_1 : Bool) (a0_2 : Int) (l0_3 : List Int) (l0_4 : List Int) (a0_5 : Bool) (a0_6 : Bool) (a1_0 : Int) (a1_1 : Bool) (a1_2 : Int) (l1_3 : List Int) (l1_4 : List Int) (a1_5 : Bool) (a1_6 : Bool) : Option (Bool):=if a0_0=a1_0 then (if (a0_1 != a1_1)=true then (some false) else (if a0_2=a1_2 then ((laws_eqIntS.f k l0_3 l1_3).bind fun t260=>(if t260=true then ((laws_eqIntS.f k l0_4 l1_4).bind fun t261=>(if t261=true then (if (a0_5 != a1_5)=true then (some false) else (if (a0_6 != a1_6)=true then (some false) else (some true))) else (some false))) else (some false))) else (some false))) else (some false)
theorem laws_eqOld.mono : ∀ a0 a1 a2 a3 a4 a5 a6 a7 a8 a9 a10 a11 a12 a13 k,LeO (laws_eqOld.f k a0 a1 a2 a3 a4 a5 a6 a7 a8 a9 a10 a11 a12 a13) (laws_eqOld.f (k + 1) a0 a1 a2 a3 a4 a5 a6 a7 a8 a9 a10 a11 a12 a13):=by
 intro a0 a1 a2 a3 a4 a5 a6 a7 a8 a9 a10 a11 a12 a13 k
 unfold laws_eqOld.f
 repeat' first
   | (with_reducible exact laws_eqIntS.mono _ _ _)
   | (with_reducible exact LeO.refl _)
   | (with_reducible exact LeO.none _)
   | (with_reducible refine LeO.ite ?_ ?_)
   | (with_reducible refine LeO.bind ?_ (fun _=>?_))
   | exact laws_eqIntS.mono _ _ _
   | exact LeO.none _
   | refine LeO.ite ?_ ?_
   | refine LeO.bind ?_ (fun _=>?_)
set_option maxHeartbeats 8000000 in
set_option maxRecDepth 100000 in
theorem laws_eqOld.calls (k : Nat) (a0_0 : Int) (a0_1 : Bool) (a0_2 : Int) (A0_3 : Option Addr) (c0_3 : Nat) (l0_3 : List Int) (A0_4 : Option Addr) (c0_4 : Nat) (l0_4 : List Int) (a0_5 : Bool) (a0_6 : Bool) (a1_0 : Int) (a1_1 : Bool) (a1_2 : Int) (A1_3 : Option Addr) (c1_3 : Nat) (l1_3 : List Int) (A1_4 : Option Addr) (c1_4 : Nat) (l1_4 : List Int) (a1_5 : Bool) (a1_6 : Bool) (r : Bool) (w : World) (hr0_3 : Kd.C (Kd.int .i64) w A0_3 l0_3.length l0_3) (hc0_3 : l0_3.length ≤ c0_3) (hr0_4 : Kd.C (Kd.int .i64) w A0_4 l0_4.length l0_4) (hc0_4 : l0_4.length ≤ c0_4) (hr1_3 : Kd.C (Kd.int .i64) w A1_3 l1_3.length l1_3) (hc1_3 : l1_3.length ≤ c1_3) (hr1_4 : Kd.C (Kd.int .i64) w A1_4 l1_4.length l1_4) (hc1_4 : l1_4.length ≤ c1_4) (h : laws_eqOld.f k a0_0 a0_1 a0_2 l0_3 l0_4 a0_5 a0_6 a1_0 a1_1 a1_2 l1_3 l1_4 a1_5 a1_6=some r) :
  Calls Try.prog 35 #[.agg #[.int .i64 a0_0,.bool a0_1,.int .i64 a0_2,.slice A0_3 l0_3.length c0_3,.slice A0_4 l0_4.length c0_4,.bool a0_5,.bool a0_6],.agg #[.int .i64 a1_0,.bool a1_1,.int .i64 a1_2,.slice A1_3 l1_3.length c1_3,.slice A1_4 l1_4.length c1_4,.bool a1_5,.bool a1_6]] w fun e w'=>e = .returned (.bool r)∧Below w.heap.size w w':=by
 have hu26:=Try.underlying26
 have HR0_3:=Aside0.mk hr0_3
 have HC0_3:=Aside0.mk hc0_3
 clear hr0_3 hc0_3
 have HR0_4:=Aside0.mk hr0_4
 have HC0_4:=Aside0.mk hc0_4
 clear hr0_4 hc0_4
 have HR1_3:=Aside0.mk hr1_3
 have HC1_3:=Aside0.mk hc1_3
 clear hr1_3 hc1_3
 have HR1_4:=Aside0.mk hr1_4
 have HC1_4:=Aside0.mk hc1_4
 clear hr1_4 hc1_4
 have HB:=Aside0.mk (Below.refl w.heap.size w)
 have H : (if a0_0=a1_0 then (if (a0_1 != a1_1)=true then (some false) else (if a0_2=a1_2 then ((laws_eqIntS.f k l0_3 l1_3).bind fun t260=>(if t260=true then ((laws_eqIntS.f k l0_4 l1_4).bind fun t261=>(if t261=true then (if (a0_5 != a1_5)=true then (some false) else (if (a0_6 != a1_6)=true then (some false) else (some true))) else (some false))) else (some false))) else (some false))) else (some false))=some r:=h
 clear h
 by_cases c3 : a0_0=a1_0
 ·rw [if_pos c3] at H
  have c3b0 : (a0_0 == a1_0)=true:=beq_iff_eq.mpr c3
  have c3b1 : (a0_0 != a1_0)=false:=bne_eq_false_iff_eq.mpr c3
  clear c3
  by_cases c4 : (a0_1 != a1_1)=true
  ·rw [if_pos c4] at H
   have c4b0 : (a0_1 != a1_1)=true:=c4
   (try (have c4b1 : decide (a0_1=a1_1)=false:=by simpa using c4))
   (try (have c4b2 : (a0_1 == a1_1)=false:=by simpa using c4))
   (try (have c4b3 : ¬ (a0_1=a1_1):=by simpa using c4))
   clear c4
   obtain rfl:=Option.some.inj H
   go_enter Try.func35,Try.ntmps35
   go_wp2_with (first|((with_reducible refine gate_dst (N:=2) rfl ?_);refine box_event ?hg (N:=2) ?hd (cs:=#[.int .i64 a0_0,.bool a0_1,.int .i64 a0_2,.slice A0_3 l0_3.length c0_3,.slice A0_4 l0_4.length c0_4,.bool a0_5,.bool a0_6]) (t:=26) ?hr ?_;(case hd=>rfl);(case hg=>rfl);(case hr=>first|(go_simp;done)|(go_simp;rfl));intro gb258 hg w5 hbox hb;have n0_:=Aside0.mk (below_step (by repeat (first|(with_reducible first|exact HB.out|apply below_alloc|apply pw_below_drewN|apply below_drew1)|exact HB.out)) hb);have n1_:=Aside0.mk (hbox);have n2_:=Aside0.mk ((by rw [hg];exact (below_size (by repeat (first|(with_reducible first|exact HB.out|apply below_alloc|apply pw_below_drewN|apply below_drew1)|exact HB.out))) : w.heap.size ≤ gb258));have n3_:=Aside0.mk ((by rw [hg];exact (below_size (by repeat (first|(with_reducible first|exact HB.out|apply below_alloc|apply pw_below_drewN|apply below_drew1)|exact HB.out))) : w.heap.size ≤ gb258));clear HB;have HB:=n0_;have BK258:=n1_;have GW258:=n2_;have GE258:=n3_;clear n0_ n1_ n2_ n3_;clear hb hbox hg)|((with_reducible refine gate_dst (N:=3) rfl ?_);refine box_event ?hg (N:=3) ?hd (cs:=#[.int .i64 a1_0,.bool a1_1,.int .i64 a1_2,.slice A1_3 l1_3.length c1_3,.slice A1_4 l1_4.length c1_4,.bool a1_5,.bool a1_6]) (t:=26) ?hr ?_;(case hd=>rfl);(case hg=>rfl);(case hr=>first|(go_simp;done)|(go_simp;rfl));intro gb259 hg w6 hbox hb;have n0_:=Aside0.mk (blk_below (g:=gb258) (o:=.cells #[.int .i64 a0_0,.bool a0_1,.int .i64 a0_2,.slice A0_3 l0_3.length c0_3,.slice A0_4 l0_4.length c0_4,.bool a0_5,.bool a0_6] 26 (0,0)) (by (with_reducible repeat (first|refine blk_drewN ?_ _|refine blk_drew ?_|refine blk_alloc ?_ _));exact BK258.out) hb);have n1_:=Aside0.mk (below_step (by repeat (first|(with_reducible first|exact HB.out|apply below_alloc|apply pw_below_drewN|apply below_drew1|refine below_set ?_ GE258.out)|exact HB.out)) hb);have n2_:=Aside0.mk (hbox);have n3_:=Aside0.mk ((by rw [hg];exact (below_size (by repeat (first|(with_reducible first|exact HB.out|apply below_alloc|apply pw_below_drewN|apply below_drew1|refine below_set ?_ GE258.out)|exact HB.out))) : w.heap.size ≤ gb259));have n4_:=Aside0.mk ((by rw [hg];exact (below_size (by repeat (first|(with_reducible first|exact HB.out|apply below_alloc|apply pw_below_drewN|apply below_drew1|refine below_set ?_ GE258.out)|exact HB.out))) : w.heap.size ≤ gb259));have n5_:=Aside0.mk ((by rw [hg];exact Nat.ne_of_lt (blk_lt (g:=gb258) (o:=.cells #[.int .i64 a0_0,.bool a0_1,.int .i64 a0_2,.slice A0_3 l0_3.length c0_3,.slice A0_4 l0_4.length c0_4,.bool a0_5,.bool a0_6] 26 (0,0)) (by (with_reducible repeat (first|refine blk_drewN ?_ _|refine blk_drew ?_|refine blk_alloc ?_ _));exact BK258.out)) : gb258 ≠ gb259));have n6_:=Aside0.mk ((by rw [hg];exact Nat.ne_of_gt (blk_lt (g:=gb258) (o:=.cells #[.int .i64 a0_0,.bool a0_1,.int .i64 a0_2,.slice A0_3 l0_3.length c0_3,.slice A0_4 l0_4.length c0_4,.bool a0_5,.bool a0_6] 26 (0,0)) (by (with_reducible repeat (first|refine blk_drewN ?_ _|refine blk_drew ?_|refine blk_alloc ?_ _));exact BK258.out)) : gb259 ≠ gb258));clear BK258;clear HB;have BK258:=n0_;have HB:=n1_;have BK259:=n2_;have GW259:=n3_;have GE259:=n4_;have NB258_259:=n5_;have NB259_258:=n6_;clear n0_ n1_ n2_ n3_ n4_ n5_ n6_;clear hb hbox hg;have hnb7:=NB258_259.out;have hnc7:=NB259_258.out;have hcz8_0 : w6.cell? ⟨gb258,0,none⟩ = some (.int .i64 a0_0):=(blk_cell BK258.out 0).trans rfl;have hcz8_1 : w6.cell? ⟨gb258,1,none⟩ = some (.bool a0_1):=(blk_cell BK258.out 1).trans rfl;have hcz8_2 : w6.cell? ⟨gb258,2,none⟩ = some (.int .i64 a0_2):=(blk_cell BK258.out 2).trans rfl;have hcz8_3 : w6.cell? ⟨gb258,3,none⟩ = some (.slice A0_3 l0_3.length c0_3):=(blk_cell BK258.out 3).trans rfl;have hcz8_4 : w6.cell? ⟨gb258,4,none⟩ = some (.slice A0_4 l0_4.length c0_4):=(blk_cell BK258.out 4).trans rfl;have hcz8_5 : w6.cell? ⟨gb258,5,none⟩ = some (.bool a0_5):=(blk_cell BK258.out 5).trans rfl;have hcz8_6 : w6.cell? ⟨gb258,6,none⟩ = some (.bool a0_6):=(blk_cell BK258.out 6).trans rfl;have hfz8_0:=blk_frozen BK258.out 0;have hfz8_1:=blk_frozen BK258.out 1;have hfz8_2:=blk_frozen BK258.out 2;have hfz8_3:=blk_frozen BK258.out 3;have hfz8_4:=blk_frozen BK258.out 4;have hfz8_5:=blk_frozen BK258.out 5;have hfz8_6:=blk_frozen BK258.out 6;have hcz9_0 : w6.cell? ⟨gb259,0,none⟩ = some (.int .i64 a1_0):=(blk_cell BK259.out 0).trans rfl;have hcz9_1 : w6.cell? ⟨gb259,1,none⟩ = some (.bool a1_1):=(blk_cell BK259.out 1).trans rfl;have hcz9_2 : w6.cell? ⟨gb259,2,none⟩ = some (.int .i64 a1_2):=(blk_cell BK259.out 2).trans rfl;have hcz9_3 : w6.cell? ⟨gb259,3,none⟩ = some (.slice A1_3 l1_3.length c1_3):=(blk_cell BK259.out 3).trans rfl;have hcz9_4 : w6.cell? ⟨gb259,4,none⟩ = some (.slice A1_4 l1_4.length c1_4):=(blk_cell BK259.out 4).trans rfl;have hcz9_5 : w6.cell? ⟨gb259,5,none⟩ = some (.bool a1_5):=(blk_cell BK259.out 5).trans rfl;have hcz9_6 : w6.cell? ⟨gb259,6,none⟩ = some (.bool a1_6):=(blk_cell BK259.out 6).trans rfl;have hfz9_0:=blk_frozen BK259.out 0;have hfz9_1:=blk_frozen BK259.out 1;have hfz9_2:=blk_frozen BK259.out 2;have hfz9_3:=blk_frozen BK259.out 3;have hfz9_4:=blk_frozen BK259.out 4;have hfz9_5:=blk_frozen BK259.out 5;have hfz9_6:=blk_frozen BK259.out 6))
   go_ret
   exact ⟨by first|rfl|(simp [errW_none,errW_some] <;> rfl)|(simp [*,errW_none,errW_some] <;> rfl),by repeat (first|(with_reducible first|exact HB.out|apply below_alloc|apply pw_below_drewN|apply below_drew1|refine below_set ?_ GE258.out|refine below_set ?_ GE259.out)|exact HB.out)⟩
  ·rw [if_neg c4] at H
   have c4b0 : (a0_1 != a1_1)=false:=by simpa using c4
   (try (have c4b1 : decide (a0_1=a1_1)=true:=by simpa using c4))
   (try (have c4b2 : (a0_1 == a1_1)=true:=by simpa using c4))
   clear c4
   by_cases c10 : a0_2=a1_2
   ·rw [if_pos c10] at H
    have c10b0 : (a0_2 == a1_2)=true:=beq_iff_eq.mpr c10
    have c10b1 : (a0_2 != a1_2)=false:=bne_eq_false_iff_eq.mpr c10
    clear c10
    replace H:=Option.bind_eq_some_iff.mp H
    obtain ⟨t260,A110,H⟩:=H
    replace H : (if t260=true then ((laws_eqIntS.f k l0_4 l1_4).bind fun t261=>(if t261=true then (if (a0_5 != a1_5)=true then (some false) else (if (a0_6 != a1_6)=true then (some false) else (some true))) else (some false))) else (some false))=some r:=H
    have A11:=Aside0.mk A110
    clear A110
    by_cases c12 : t260=true
    ·subst c12
     have H1 : ((laws_eqIntS.f k l0_4 l1_4).bind fun t261=>(if t261=true then (if (a0_5 != a1_5)=true then (some false) else (if (a0_6 != a1_6)=true then (some false) else (some true))) else (some false)))=some r:=by rw [if_pos rfl] at H;exact H
     clear H
     have H:=H1
     clear H1
     replace H:=Option.bind_eq_some_iff.mp H
     obtain ⟨t261,A130,H⟩:=H
     replace H : (if t261=true then (if (a0_5 != a1_5)=true then (some false) else (if (a0_6 != a1_6)=true then (some false) else (some true))) else (some false))=some r:=H
     have A13:=Aside0.mk A130
     clear A130
     by_cases c14 : t261=true
     ·subst c14
      have H1 : (if (a0_5 != a1_5)=true then (some false) else (if (a0_6 != a1_6)=true then (some false) else (some true)))=some r:=by rw [if_pos rfl] at H;exact H
      clear H
      have H:=H1
      clear H1
      by_cases c15 : (a0_5 != a1_5)=true
      ·rw [if_pos c15] at H
       have c15b0 : (a0_5 != a1_5)=true:=c15
       (try (have c15b1 : decide (a0_5=a1_5)=false:=by simpa using c15))
       (try (have c15b2 : (a0_5 == a1_5)=false:=by simpa using c15))
       (try (have c15b3 : ¬ (a0_5=a1_5):=by simpa using c15))
       clear c15
       obtain rfl:=Option.some.inj H
       go_enter Try.func35,Try.ntmps35
       go_wp2_with (first|((with_reducible refine gate_dst (N:=2) rfl ?_);refine box_event ?hg (N:=2) ?hd (cs:=#[.int .i64 a0_0,.bool a0_1,.int .i64 a0_2,.slice A0_3 l0_3.length c0_3,.slice A0_4 l0_4.length c0_4,.bool a0_5,.bool a0_6]) (t:=26) ?hr ?_;(case hd=>rfl);(case hg=>rfl);(case hr=>first|(go_simp;done)|(go_simp;rfl));intro gb258 hg w16 hbox hb;have n0_:=Aside0.mk (below_step (by repeat (first|(with_reducible first|exact HB.out|apply below_alloc|apply pw_below_drewN|apply below_drew1)|exact HB.out)) hb);have n1_:=Aside0.mk (hbox);have n2_:=Aside0.mk ((by rw [hg];exact (below_size (by repeat (first|(with_reducible first|exact HB.out|apply below_alloc|apply pw_below_drewN|apply below_drew1)|exact HB.out))) : w.heap.size ≤ gb258));have n3_:=Aside0.mk ((by rw [hg];exact (below_size (by repeat (first|(with_reducible first|exact HB.out|apply below_alloc|apply pw_below_drewN|apply below_drew1)|exact HB.out))) : w.heap.size ≤ gb258));clear HB;have HB:=n0_;have BK258:=n1_;have GW258:=n2_;have GE258:=n3_;clear n0_ n1_ n2_ n3_;clear hb hbox hg)|((with_reducible refine gate_dst (N:=3) rfl ?_);refine box_event ?hg (N:=3) ?hd (cs:=#[.int .i64 a1_0,.bool a1_1,.int .i64 a1_2,.slice A1_3 l1_3.length c1_3,.slice A1_4 l1_4.length c1_4,.bool a1_5,.bool a1_6]) (t:=26) ?hr ?_;(case hd=>rfl);(case hg=>rfl);(case hr=>first|(go_simp;done)|(go_simp;rfl));intro gb259 hg w17 hbox hb;have n0_:=Aside0.mk (blk_below (g:=gb258) (o:=.cells #[.int .i64 a0_0,.bool a0_1,.int .i64 a0_2,.slice A0_3 l0_3.length c0_3,.slice A0_4 l0_4.length c0_4,.bool a0_5,.bool a0_6] 26 (0,0)) (by (with_reducible repeat (first|refine blk_drewN ?_ _|refine blk_drew ?_|refine blk_alloc ?_ _));exact BK258.out) hb);have n1_:=Aside0.mk (below_step (by repeat (first|(with_reducible first|exact HB.out|apply below_alloc|apply pw_below_drewN|apply below_drew1|refine below_set ?_ GE258.out)|exact HB.out)) hb);have n2_:=Aside0.mk (hbox);have n3_:=Aside0.mk ((by rw [hg];exact (below_size (by repeat (first|(with_reducible first|exact HB.out|apply below_alloc|apply pw_below_drewN|apply below_drew1|refine below_set ?_ GE258.out)|exact HB.out))) : w.heap.size ≤ gb259));have n4_:=Aside0.mk ((by rw [hg];exact (below_size (by repeat (first|(with_reducible first|exact HB.out|apply below_alloc|apply pw_below_drewN|apply below_drew1|refine below_set ?_ GE258.out)|exact HB.out))) : w.heap.size ≤ gb259));have n5_:=Aside0.mk ((by rw [hg];exact Nat.ne_of_lt (blk_lt (g:=gb258) (o:=.cells #[.int .i64 a0_0,.bool a0_1,.int .i64 a0_2,.slice A0_3 l0_3.length c0_3,.slice A0_4 l0_4.length c0_4,.bool a0_5,.bool a0_6] 26 (0,0)) (by (with_reducible repeat (first|refine blk_drewN ?_ _|refine blk_drew ?_|refine blk_alloc ?_ _));exact BK258.out)) : gb258 ≠ gb259));have n6_:=Aside0.mk ((by rw [hg];exact Nat.ne_of_gt (blk_lt (g:=gb258) (o:=.cells #[.int .i64 a0_0,.bool a0_1,.int .i64 a0_2,.slice A0_3 l0_3.length c0_3,.slice A0_4 l0_4.length c0_4,.bool a0_5,.bool a0_6] 26 (0,0)) (by (with_reducible repeat (first|refine blk_drewN ?_ _|refine blk_drew ?_|refine blk_alloc ?_ _));exact BK258.out)) : gb259 ≠ gb258));clear BK258;clear HB;have BK258:=n0_;have HB:=n1_;have BK259:=n2_;have GW259:=n3_;have GE259:=n4_;have NB258_259:=n5_;have NB259_258:=n6_;clear n0_ n1_ n2_ n3_ n4_ n5_ n6_;clear hb hbox hg;have hnb18:=NB258_259.out;have hnc18:=NB259_258.out;have hcz19_0 : w17.cell? ⟨gb258,0,none⟩ = some (.int .i64 a0_0):=(blk_cell BK258.out 0).trans rfl;have hcz19_1 : w17.cell? ⟨gb258,1,none⟩ = some (.bool a0_1):=(blk_cell BK258.out 1).trans rfl;have hcz19_2 : w17.cell? ⟨gb258,2,none⟩ = some (.int .i64 a0_2):=(blk_cell BK258.out 2).trans rfl;have hcz19_3 : w17.cell? ⟨gb258,3,none⟩ = some (.slice A0_3 l0_3.length c0_3):=(blk_cell BK258.out 3).trans rfl;have hcz19_4 : w17.cell? ⟨gb258,4,none⟩ = some (.slice A0_4 l0_4.length c0_4):=(blk_cell BK258.out 4).trans rfl;have hcz19_5 : w17.cell? ⟨gb258,5,none⟩ = some (.bool a0_5):=(blk_cell BK258.out 5).trans rfl;have hcz19_6 : w17.cell? ⟨gb258,6,none⟩ = some (.bool a0_6):=(blk_cell BK258.out 6).trans rfl;have hfz19_0:=blk_frozen BK258.out 0;have hfz19_1:=blk_frozen BK258.out 1;have hfz19_2:=blk_frozen BK258.out 2;have hfz19_3:=blk_frozen BK258.out 3;have hfz19_4:=blk_frozen BK258.out 4;have hfz19_5:=blk_frozen BK258.out 5;have hfz19_6:=blk_frozen BK258.out 6;have hcz20_0 : w17.cell? ⟨gb259,0,none⟩ = some (.int .i64 a1_0):=(blk_cell BK259.out 0).trans rfl;have hcz20_1 : w17.cell? ⟨gb259,1,none⟩ = some (.bool a1_1):=(blk_cell BK259.out 1).trans rfl;have hcz20_2 : w17.cell? ⟨gb259,2,none⟩ = some (.int .i64 a1_2):=(blk_cell BK259.out 2).trans rfl;have hcz20_3 : w17.cell? ⟨gb259,3,none⟩ = some (.slice A1_3 l1_3.length c1_3):=(blk_cell BK259.out 3).trans rfl;have hcz20_4 : w17.cell? ⟨gb259,4,none⟩ = some (.slice A1_4 l1_4.length c1_4):=(blk_cell BK259.out 4).trans rfl;have hcz20_5 : w17.cell? ⟨gb259,5,none⟩ = some (.bool a1_5):=(blk_cell BK259.out 5).trans rfl;have hcz20_6 : w17.cell? ⟨gb259,6,none⟩ = some (.bool a1_6):=(blk_cell BK259.out 6).trans rfl;have hfz20_0:=blk_frozen BK259.out 0;have hfz20_1:=blk_frozen BK259.out 1;have hfz20_2:=blk_frozen BK259.out 2;have hfz20_3:=blk_frozen BK259.out 3;have hfz20_4:=blk_frozen BK259.out 4;have hfz20_5:=blk_frozen BK259.out 5;have hfz20_6:=blk_frozen BK259.out 6)|((with_reducible refine gate_callee (f:=41) rfl ?_);refine goesL_ (some 24) rfl rfl Try.func41 (by kernel_rfl) rfl #[.slice A0_3 l0_3.length c0_3,.slice A1_3 l1_3.length c1_3] rfl (by (try simp only [List.map_toArray,List.map_cons,List.map_nil]);first|done|rfl|(simp only [List.length_drop,List.length_take];rfl)) ?_;(with_reducible refine (laws_eqIntS.calls k _ _ l0_3 _ _ l1_3 true _ ?side1 ?side2 ?side3 ?side4 A11.out).mono ?_);(case side1=>repeat (first|exact (Kd.C_below HR0_3.out HB.out)|(with_reducible refine Kd.C_alloc ?_ _)|(with_reducible refine Kd.C_drewN ?_ _)|(with_reducible refine Kd.C_drew ?_)));(case side2=>exact HC0_3.out);(case side3=>repeat (first|exact (Kd.C_below HR1_3.out HB.out)|(with_reducible refine Kd.C_alloc ?_ _)|(with_reducible refine Kd.C_drewN ?_ _)|(with_reducible refine Kd.C_drew ?_)));(case side4=>exact HC1_3.out);rintro e w' ⟨rfl,⟨nd,rfl⟩⟩;refine ⟨_,rfl,?_⟩)|((with_reducible refine gate_callee (f:=41) rfl ?_);refine goesL_ (some 30) rfl rfl Try.func41 (by kernel_rfl) rfl #[.slice A0_4 l0_4.length c0_4,.slice A1_4 l1_4.length c1_4] rfl (by (try simp only [List.map_toArray,List.map_cons,List.map_nil]);first|done|rfl|(simp only [List.length_drop,List.length_take];rfl)) ?_;(with_reducible refine (laws_eqIntS.calls k _ _ l0_4 _ _ l1_4 true _ ?side1 ?side2 ?side3 ?side4 A13.out).mono ?_);(case side1=>repeat (first|exact (Kd.C_below HR0_4.out (by repeat (first|(with_reducible first|exact HB.out|apply below_alloc|apply pw_below_drewN|apply below_drew1|refine below_set ?_ GE258.out|refine below_set ?_ GE259.out)|exact HB.out)))|(with_reducible refine Kd.C_alloc ?_ _)|(with_reducible refine Kd.C_drewN ?_ _)|(with_reducible refine Kd.C_drew ?_)));(case side2=>exact HC0_4.out);(case side3=>repeat (first|exact (Kd.C_below HR1_4.out (by repeat (first|(with_reducible first|exact HB.out|apply below_alloc|apply pw_below_drewN|apply below_drew1|refine below_set ?_ GE258.out|refine below_set ?_ GE259.out)|exact HB.out)))|(with_reducible refine Kd.C_alloc ?_ _)|(with_reducible refine Kd.C_drewN ?_ _)|(with_reducible refine Kd.C_drew ?_)));(case side4=>exact HC1_4.out);rintro e w' ⟨rfl,⟨nd,rfl⟩⟩;refine ⟨_,rfl,?_⟩))
       go_ret
       exact ⟨by first|rfl|(simp [errW_none,errW_some] <;> rfl)|(simp [*,errW_none,errW_some] <;> rfl),by repeat (first|(with_reducible first|exact HB.out|apply below_alloc|apply pw_below_drewN|apply below_drew1|refine below_set ?_ GE258.out|refine below_set ?_ GE259.out)|exact HB.out)⟩
      ·rw [if_neg c15] at H
       have c15b0 : (a0_5 != a1_5)=false:=by simpa using c15
       (try (have c15b1 : decide (a0_5=a1_5)=true:=by simpa using c15))
       (try (have c15b2 : (a0_5 == a1_5)=true:=by simpa using c15))
       clear c15
       by_cases c21 : (a0_6 != a1_6)=true
       ·rw [if_pos c21] at H
        have c21b0 : (a0_6 != a1_6)=true:=c21
        (try (have c21b1 : decide (a0_6=a1_6)=false:=by simpa using c21))
        (try (have c21b2 : (a0_6 == a1_6)=false:=by simpa using c21))
        (try (have c21b3 : ¬ (a0_6=a1_6):=by simpa using c21))
        clear c21
        obtain rfl:=Option.some.inj H
        go_enter Try.func35,Try.ntmps35
        go_wp2_with (first|((with_reducible refine gate_dst (N:=2) rfl ?_);refine box_event ?hg (N:=2) ?hd (cs:=#[.int .i64 a0_0,.bool a0_1,.int .i64 a0_2,.slice A0_3 l0_3.length c0_3,.slice A0_4 l0_4.length c0_4,.bool a0_5,.bool a0_6]) (t:=26) ?hr ?_;(case hd=>rfl);(case hg=>rfl);(case hr=>first|(go_simp;done)|(go_simp;rfl));intro gb258 hg w22 hbox hb;have n0_:=Aside0.mk (below_step (by repeat (first|(with_reducible first|exact HB.out|apply below_alloc|apply pw_below_drewN|apply below_drew1)|exact HB.out)) hb);have n1_:=Aside0.mk (hbox);have n2_:=Aside0.mk ((by rw [hg];exact (below_size (by repeat (first|(with_reducible first|exact HB.out|apply below_alloc|apply pw_below_drewN|apply below_drew1)|exact HB.out))) : w.heap.size ≤ gb258));have n3_:=Aside0.mk ((by rw [hg];exact (below_size (by repeat (first|(with_reducible first|exact HB.out|apply below_alloc|apply pw_below_drewN|apply below_drew1)|exact HB.out))) : w.heap.size ≤ gb258));clear HB;have HB:=n0_;have BK258:=n1_;have GW258:=n2_;have GE258:=n3_;clear n0_ n1_ n2_ n3_;clear hb hbox hg)|((with_reducible refine gate_dst (N:=3) rfl ?_);refine box_event ?hg (N:=3) ?hd (cs:=#[.int .i64 a1_0,.bool a1_1,.int .i64 a1_2,.slice A1_3 l1_3.length c1_3,.slice A1_4 l1_4.length c1_4,.bool a1_5,.bool a1_6]) (t:=26) ?hr ?_;(case hd=>rfl);(case hg=>rfl);(case hr=>first|(go_simp;done)|(go_simp;rfl));intro gb259 hg w23 hbox hb;have n0_:=Aside0.mk (blk_below (g:=gb258) (o:=.cells #[.int .i64 a0_0,.bool a0_1,.int .i64 a0_2,.slice A0_3 l0_3.length c0_3,.slice A0_4 l0_4.length c0_4,.bool a0_5,.bool a0_6] 26 (0,0)) (by (with_reducible repeat (first|refine blk_drewN ?_ _|refine blk_drew ?_|refine blk_alloc ?_ _));exact BK258.out) hb);have n1_:=Aside0.mk (below_step (by repeat (first|(with_reducible first|exact HB.out|apply below_alloc|apply pw_below_drewN|apply below_drew1|refine below_set ?_ GE258.out)|exact HB.out)) hb);have n2_:=Aside0.mk (hbox);have n3_:=Aside0.mk ((by rw [hg];exact (below_size (by repeat (first|(with_reducible first|exact HB.out|apply below_alloc|apply pw_below_drewN|apply below_drew1|refine below_set ?_ GE258.out)|exact HB.out))) : w.heap.size ≤ gb259));have n4_:=Aside0.mk ((by rw [hg];exact (below_size (by repeat (first|(with_reducible first|exact HB.out|apply below_alloc|apply pw_below_drewN|apply below_drew1|refine below_set ?_ GE258.out)|exact HB.out))) : w.heap.size ≤ gb259));have n5_:=Aside0.mk ((by rw [hg];exact Nat.ne_of_lt (blk_lt (g:=gb258) (o:=.cells #[.int .i64 a0_0,.bool a0_1,.int .i64 a0_2,.slice A0_3 l0_3.length c0_3,.slice A0_4 l0_4.length c0_4,.bool a0_5,.bool a0_6] 26 (0,0)) (by (with_reducible repeat (first|refine blk_drewN ?_ _|refine blk_drew ?_|refine blk_alloc ?_ _));exact BK258.out)) : gb258 ≠ gb259));have n6_:=Aside0.mk ((by rw [hg];exact Nat.ne_of_gt (blk_lt (g:=gb258) (o:=.cells #[.int .i64 a0_0,.bool a0_1,.int .i64 a0_2,.slice A0_3 l0_3.length c0_3,.slice A0_4 l0_4.length c0_4,.bool a0_5,.bool a0_6] 26 (0,0)) (by (with_reducible repeat (first|refine blk_drewN ?_ _|refine blk_drew ?_|refine blk_alloc ?_ _));exact BK258.out)) : gb259 ≠ gb258));clear BK258;clear HB;have BK258:=n0_;have HB:=n1_;have BK259:=n2_;have GW259:=n3_;have GE259:=n4_;have NB258_259:=n5_;have NB259_258:=n6_;clear n0_ n1_ n2_ n3_ n4_ n5_ n6_;clear hb hbox hg;have hnb24:=NB258_259.out;have hnc24:=NB259_258.out;have hcz25_0 : w23.cell? ⟨gb258,0,none⟩ = some (.int .i64 a0_0):=(blk_cell BK258.out 0).trans rfl;have hcz25_1 : w23.cell? ⟨gb258,1,none⟩ = some (.bool a0_1):=(blk_cell BK258.out 1).trans rfl;have hcz25_2 : w23.cell? ⟨gb258,2,none⟩ = some (.int .i64 a0_2):=(blk_cell BK258.out 2).trans rfl;have hcz25_3 : w23.cell? ⟨gb258,3,none⟩ = some (.slice A0_3 l0_3.length c0_3):=(blk_cell BK258.out 3).trans rfl;have hcz25_4 : w23.cell? ⟨gb258,4,none⟩ = some (.slice A0_4 l0_4.length c0_4):=(blk_cell BK258.out 4).trans rfl;have hcz25_5 : w23.cell? ⟨gb258,5,none⟩ = some (.bool a0_5):=(blk_cell BK258.out 5).trans rfl;have hcz25_6 : w23.cell? ⟨gb258,6,none⟩ = some (.bool a0_6):=(blk_cell BK258.out 6).trans rfl;have hfz25_0:=blk_frozen BK258.out 0;have hfz25_1:=blk_frozen BK258.out 1;have hfz25_2:=blk_frozen BK258.out 2;have hfz25_3:=blk_frozen BK258.out 3;have hfz25_4:=blk_frozen BK258.out 4;have hfz25_5:=blk_frozen BK258.out 5;have hfz25_6:=blk_frozen BK258.out 6;have hcz26_0 : w23.cell? ⟨gb259,0,none⟩ = some (.int .i64 a1_0):=(blk_cell BK259.out 0).trans rfl;have hcz26_1 : w23.cell? ⟨gb259,1,none⟩ = some (.bool a1_1):=(blk_cell BK259.out 1).trans rfl;have hcz26_2 : w23.cell? ⟨gb259,2,none⟩ = some (.int .i64 a1_2):=(blk_cell BK259.out 2).trans rfl;have hcz26_3 : w23.cell? ⟨gb259,3,none⟩ = some (.slice A1_3 l1_3.length c1_3):=(blk_cell BK259.out 3).trans rfl;have hcz26_4 : w23.cell? ⟨gb259,4,none⟩ = some (.slice A1_4 l1_4.length c1_4):=(blk_cell BK259.out 4).trans rfl;have hcz26_5 : w23.cell? ⟨gb259,5,none⟩ = some (.bool a1_5):=(blk_cell BK259.out 5).trans rfl;have hcz26_6 : w23.cell? ⟨gb259,6,none⟩ = some (.bool a1_6):=(blk_cell BK259.out 6).trans rfl;have hfz26_0:=blk_frozen BK259.out 0;have hfz26_1:=blk_frozen BK259.out 1;have hfz26_2:=blk_frozen BK259.out 2;have hfz26_3:=blk_frozen BK259.out 3;have hfz26_4:=blk_frozen BK259.out 4;have hfz26_5:=blk_frozen BK259.out 5;have hfz26_6:=blk_frozen BK259.out 6)|((with_reducible refine gate_callee (f:=41) rfl ?_);refine goesL_ (some 24) rfl rfl Try.func41 (by kernel_rfl) rfl #[.slice A0_3 l0_3.length c0_3,.slice A1_3 l1_3.length c1_3] rfl (by (try simp only [List.map_toArray,List.map_cons,List.map_nil]);first|done|rfl|(simp only [List.length_drop,List.length_take];rfl)) ?_;(with_reducible refine (laws_eqIntS.calls k _ _ l0_3 _ _ l1_3 true _ ?side1 ?side2 ?side3 ?side4 A11.out).mono ?_);(case side1=>repeat (first|exact (Kd.C_below HR0_3.out HB.out)|(with_reducible refine Kd.C_alloc ?_ _)|(with_reducible refine Kd.C_drewN ?_ _)|(with_reducible refine Kd.C_drew ?_)));(case side2=>exact HC0_3.out);(case side3=>repeat (first|exact (Kd.C_below HR1_3.out HB.out)|(with_reducible refine Kd.C_alloc ?_ _)|(with_reducible refine Kd.C_drewN ?_ _)|(with_reducible refine Kd.C_drew ?_)));(case side4=>exact HC1_3.out);rintro e w' ⟨rfl,⟨nd,rfl⟩⟩;refine ⟨_,rfl,?_⟩)|((with_reducible refine gate_callee (f:=41) rfl ?_);refine goesL_ (some 30) rfl rfl Try.func41 (by kernel_rfl) rfl #[.slice A0_4 l0_4.length c0_4,.slice A1_4 l1_4.length c1_4] rfl (by (try simp only [List.map_toArray,List.map_cons,List.map_nil]);first|done|rfl|(simp only [List.length_drop,List.length_take];rfl)) ?_;(with_reducible refine (laws_eqIntS.calls k _ _ l0_4 _ _ l1_4 true _ ?side1 ?side2 ?side3 ?side4 A13.out).mono ?_);(case side1=>repeat (first|exact (Kd.C_below HR0_4.out (by repeat (first|(with_reducible first|exact HB.out|apply below_alloc|apply pw_below_drewN|apply below_drew1|refine below_set ?_ GE258.out|refine below_set ?_ GE259.out)|exact HB.out)))|(with_reducible refine Kd.C_alloc ?_ _)|(with_reducible refine Kd.C_drewN ?_ _)|(with_reducible refine Kd.C_drew ?_)));(case side2=>exact HC0_4.out);(case side3=>repeat (first|exact (Kd.C_below HR1_4.out (by repeat (first|(with_reducible first|exact HB.out|apply below_alloc|apply pw_below_drewN|apply below_drew1|refine below_set ?_ GE258.out|refine below_set ?_ GE259.out)|exact HB.out)))|(with_reducible refine Kd.C_alloc ?_ _)|(with_reducible refine Kd.C_drewN ?_ _)|(with_reducible refine Kd.C_drew ?_)));(case side4=>exact HC1_4.out);rintro e w' ⟨rfl,⟨nd,rfl⟩⟩;refine ⟨_,rfl,?_⟩))
        go_ret
        exact ⟨by first|rfl|(simp [errW_none,errW_some] <;> rfl)|(simp [*,errW_none,errW_some] <;> rfl),by repeat (first|(with_reducible first|exact HB.out|apply below_alloc|apply pw_below_drewN|apply below_drew1|refine below_set ?_ GE258.out|refine below_set ?_ GE259.out)|exact HB.out)⟩
       ·rw [if_neg c21] at H
        have c21b0 : (a0_6 != a1_6)=false:=by simpa using c21
        (try (have c21b1 : decide (a0_6=a1_6)=true:=by simpa using c21))
        (try (have c21b2 : (a0_6 == a1_6)=true:=by simpa using c21))
        clear c21
        obtain rfl:=Option.some.inj H
        go_enter Try.func35,Try.ntmps35
        go_wp2_with (first|((with_reducible refine gate_dst (N:=2) rfl ?_);refine box_event ?hg (N:=2) ?hd (cs:=#[.int .i64 a0_0,.bool a0_1,.int .i64 a0_2,.slice A0_3 l0_3.length c0_3,.slice A0_4 l0_4.length c0_4,.bool a0_5,.bool a0_6]) (t:=26) ?hr ?_;(case hd=>rfl);(case hg=>rfl);(case hr=>first|(go_simp;done)|(go_simp;rfl));intro gb258 hg w27 hbox hb;have n0_:=Aside0.mk (below_step (by repeat (first|(with_reducible first|exact HB.out|apply below_alloc|apply pw_below_drewN|apply below_drew1)|exact HB.out)) hb);have n1_:=Aside0.mk (hbox);have n2_:=Aside0.mk ((by rw [hg];exact (below_size (by repeat (first|(with_reducible first|exact HB.out|apply below_alloc|apply pw_below_drewN|apply below_drew1)|exact HB.out))) : w.heap.size ≤ gb258));have n3_:=Aside0.mk ((by rw [hg];exact (below_size (by repeat (first|(with_reducible first|exact HB.out|apply below_alloc|apply pw_below_drewN|apply below_drew1)|exact HB.out))) : w.heap.size ≤ gb258));clear HB;have HB:=n0_;have BK258:=n1_;have GW258:=n2_;have GE258:=n3_;clear n0_ n1_ n2_ n3_;clear hb hbox hg)|((with_reducible refine gate_dst (N:=3) rfl ?_);refine box_event ?hg (N:=3) ?hd (cs:=#[.int .i64 a1_0,.bool a1_1,.int .i64 a1_2,.slice A1_3 l1_3.length c1_3,.slice A1_4 l1_4.length c1_4,.bool a1_5,.bool a1_6]) (t:=26) ?hr ?_;(case hd=>rfl);(case hg=>rfl);(case hr=>first|(go_simp;done)|(go_simp;rfl));intro gb259 hg w28 hbox hb;have n0_:=Aside0.mk (blk_below (g:=gb258) (o:=.cells #[.int .i64 a0_0,.bool a0_1,.int .i64 a0_2,.slice A0_3 l0_3.length c0_3,.slice A0_4 l0_4.length c0_4,.bool a0_5,.bool a0_6] 26 (0,0)) (by (with_reducible repeat (first|refine blk_drewN ?_ _|refine blk_drew ?_|refine blk_alloc ?_ _));exact BK258.out) hb);have n1_:=Aside0.mk (below_step (by repeat (first|(with_reducible first|exact HB.out|apply below_alloc|apply pw_below_drewN|apply below_drew1|refine below_set ?_ GE258.out)|exact HB.out)) hb);have n2_:=Aside0.mk (hbox);have n3_:=Aside0.mk ((by rw [hg];exact (below_size (by repeat (first|(with_reducible first|exact HB.out|apply below_alloc|apply pw_below_drewN|apply below_drew1|refine below_set ?_ GE258.out)|exact HB.out))) : w.heap.size ≤ gb259));have n4_:=Aside0.mk ((by rw [hg];exact (below_size (by repeat (first|(with_reducible first|exact HB.out|apply below_alloc|apply pw_below_drewN|apply below_drew1|refine below_set ?_ GE258.out)|exact HB.out))) : w.heap.size ≤ gb259));have n5_:=Aside0.mk ((by rw [hg];exact Nat.ne_of_lt (blk_lt (g:=gb258) (o:=.cells #[.int .i64 a0_0,.bool a0_1,.int .i64 a0_2,.slice A0_3 l0_3.length c0_3,.slice A0_4 l0_4.length c0_4,.bool a0_5,.bool a0_6] 26 (0,0)) (by (with_reducible repeat (first|refine blk_drewN ?_ _|refine blk_drew ?_|refine blk_alloc ?_ _));exact BK258.out)) : gb258 ≠ gb259));have n6_:=Aside0.mk ((by rw [hg];exact Nat.ne_of_gt (blk_lt (g:=gb258) (o:=.cells #[.int .i64 a0_0,.bool a0_1,.int .i64 a0_2,.slice A0_3 l0_3.length c0_3,.slice A0_4 l0_4.length c0_4,.bool a0_5,.bool a0_6] 26 (0,0)) (by (with_reducible repeat (first|refine blk_drewN ?_ _|refine blk_drew ?_|refine blk_alloc ?_ _));exact BK258.out)) : gb259 ≠ gb258));clear BK258;clear HB;have BK258:=n0_;have HB:=n1_;have BK259:=n2_;have GW259:=n3_;have GE259:=n4_;have NB258_259:=n5_;have NB259_258:=n6_;clear n0_ n1_ n2_ n3_ n4_ n5_ n6_;clear hb hbox hg;have hnb29:=NB258_259.out;have hnc29:=NB259_258.out;have hcz30_0 : w28.cell? ⟨gb258,0,none⟩ = some (.int .i64 a0_0):=(blk_cell BK258.out 0).trans rfl;have hcz30_1 : w28.cell? ⟨gb258,1,none⟩ = some (.bool a0_1):=(blk_cell BK258.out 1).trans rfl;have hcz30_2 : w28.cell? ⟨gb258,2,none⟩ = some (.int .i64 a0_2):=(blk_cell BK258.out 2).trans rfl;have hcz30_3 : w28.cell? ⟨gb258,3,none⟩ = some (.slice A0_3 l0_3.length c0_3):=(blk_cell BK258.out 3).trans rfl;have hcz30_4 : w28.cell? ⟨gb258,4,none⟩ = some (.slice A0_4 l0_4.length c0_4):=(blk_cell BK258.out 4).trans rfl;have hcz30_5 : w28.cell? ⟨gb258,5,none⟩ = some (.bool a0_5):=(blk_cell BK258.out 5).trans rfl;have hcz30_6 : w28.cell? ⟨gb258,6,none⟩ = some (.bool a0_6):=(blk_cell BK258.out 6).trans rfl;have hfz30_0:=blk_frozen BK258.out 0;have hfz30_1:=blk_frozen BK258.out 1;have hfz30_2:=blk_frozen BK258.out 2;have hfz30_3:=blk_frozen BK258.out 3;have hfz30_4:=blk_frozen BK258.out 4;have hfz30_5:=blk_frozen BK258.out 5;have hfz30_6:=blk_frozen BK258.out 6;have hcz31_0 : w28.cell? ⟨gb259,0,none⟩ = some (.int .i64 a1_0):=(blk_cell BK259.out 0).trans rfl;have hcz31_1 : w28.cell? ⟨gb259,1,none⟩ = some (.bool a1_1):=(blk_cell BK259.out 1).trans rfl;have hcz31_2 : w28.cell? ⟨gb259,2,none⟩ = some (.int .i64 a1_2):=(blk_cell BK259.out 2).trans rfl;have hcz31_3 : w28.cell? ⟨gb259,3,none⟩ = some (.slice A1_3 l1_3.length c1_3):=(blk_cell BK259.out 3).trans rfl;have hcz31_4 : w28.cell? ⟨gb259,4,none⟩ = some (.slice A1_4 l1_4.length c1_4):=(blk_cell BK259.out 4).trans rfl;have hcz31_5 : w28.cell? ⟨gb259,5,none⟩ = some (.bool a1_5):=(blk_cell BK259.out 5).trans rfl;have hcz31_6 : w28.cell? ⟨gb259,6,none⟩ = some (.bool a1_6):=(blk_cell BK259.out 6).trans rfl;have hfz31_0:=blk_frozen BK259.out 0;have hfz31_1:=blk_frozen BK259.out 1;have hfz31_2:=blk_frozen BK259.out 2;have hfz31_3:=blk_frozen BK259.out 3;have hfz31_4:=blk_frozen BK259.out 4;have hfz31_5:=blk_frozen BK259.out 5;have hfz31_6:=blk_frozen BK259.out 6)|((with_reducible refine gate_callee (f:=41) rfl ?_);refine goesL_ (some 24) rfl rfl Try.func41 (by kernel_rfl) rfl #[.slice A0_3 l0_3.length c0_3,.slice A1_3 l1_3.length c1_3] rfl (by (try simp only [List.map_toArray,List.map_cons,List.map_nil]);first|done|rfl|(simp only [List.length_drop,List.length_take];rfl)) ?_;(with_reducible refine (laws_eqIntS.calls k _ _ l0_3 _ _ l1_3 true _ ?side1 ?side2 ?side3 ?side4 A11.out).mono ?_);(case side1=>repeat (first|exact (Kd.C_below HR0_3.out HB.out)|(with_reducible refine Kd.C_alloc ?_ _)|(with_reducible refine Kd.C_drewN ?_ _)|(with_reducible refine Kd.C_drew ?_)));(case side2=>exact HC0_3.out);(case side3=>repeat (first|exact (Kd.C_below HR1_3.out HB.out)|(with_reducible refine Kd.C_alloc ?_ _)|(with_reducible refine Kd.C_drewN ?_ _)|(with_reducible refine Kd.C_drew ?_)));(case side4=>exact HC1_3.out);rintro e w' ⟨rfl,⟨nd,rfl⟩⟩;refine ⟨_,rfl,?_⟩)|((with_reducible refine gate_callee (f:=41) rfl ?_);refine goesL_ (some 30) rfl rfl Try.func41 (by kernel_rfl) rfl #[.slice A0_4 l0_4.length c0_4,.slice A1_4 l1_4.length c1_4] rfl (by (try simp only [List.map_toArray,List.map_cons,List.map_nil]);first|done|rfl|(simp only [List.length_drop,List.length_take];rfl)) ?_;(with_reducible refine (laws_eqIntS.calls k _ _ l0_4 _ _ l1_4 true _ ?side1 ?side2 ?side3 ?side4 A13.out).mono ?_);(case side1=>repeat (first|exact (Kd.C_below HR0_4.out (by repeat (first|(with_reducible first|exact HB.out|apply below_alloc|apply pw_below_drewN|apply below_drew1|refine below_set ?_ GE258.out|refine below_set ?_ GE259.out)|exact HB.out)))|(with_reducible refine Kd.C_alloc ?_ _)|(with_reducible refine Kd.C_drewN ?_ _)|(with_reducible refine Kd.C_drew ?_)));(case side2=>exact HC0_4.out);(case side3=>repeat (first|exact (Kd.C_below HR1_4.out (by repeat (first|(with_reducible first|exact HB.out|apply below_alloc|apply pw_below_drewN|apply below_drew1|refine below_set ?_ GE258.out|refine below_set ?_ GE259.out)|exact HB.out)))|(with_reducible refine Kd.C_alloc ?_ _)|(with_reducible refine Kd.C_drewN ?_ _)|(with_reducible refine Kd.C_drew ?_)));(case side4=>exact HC1_4.out);rintro e w' ⟨rfl,⟨nd,rfl⟩⟩;refine ⟨_,rfl,?_⟩))
        go_ret
        exact ⟨by first|rfl|(simp [errW_none,errW_some] <;> rfl)|(simp [*,errW_none,errW_some] <;> rfl),by repeat (first|(with_reducible first|exact HB.out|apply below_alloc|apply pw_below_drewN|apply below_drew1|refine below_set ?_ GE258.out|refine below_set ?_ GE259.out)|exact HB.out)⟩
     ·replace c14:=Bool.eq_false_iff.mpr c14
      subst c14
      have H1 : (some false)=some r:=by rw [if_neg (show ¬ (false=true) by decide)] at H;exact H
      clear H
      have H:=H1
      clear H1
      obtain rfl:=Option.some.inj H
      go_enter Try.func35,Try.ntmps35
      go_wp2_with (first|((with_reducible refine gate_dst (N:=2) rfl ?_);refine box_event ?hg (N:=2) ?hd (cs:=#[.int .i64 a0_0,.bool a0_1,.int .i64 a0_2,.slice A0_3 l0_3.length c0_3,.slice A0_4 l0_4.length c0_4,.bool a0_5,.bool a0_6]) (t:=26) ?hr ?_;(case hd=>rfl);(case hg=>rfl);(case hr=>first|(go_simp;done)|(go_simp;rfl));intro gb258 hg w32 hbox hb;have n0_:=Aside0.mk (below_step (by repeat (first|(with_reducible first|exact HB.out|apply below_alloc|apply pw_below_drewN|apply below_drew1)|exact HB.out)) hb);have n1_:=Aside0.mk (hbox);have n2_:=Aside0.mk ((by rw [hg];exact (below_size (by repeat (first|(with_reducible first|exact HB.out|apply below_alloc|apply pw_below_drewN|apply below_drew1)|exact HB.out))) : w.heap.size ≤ gb258));have n3_:=Aside0.mk ((by rw [hg];exact (below_size (by repeat (first|(with_reducible first|exact HB.out|apply below_alloc|apply pw_below_drewN|apply below_drew1)|exact HB.out))) : w.heap.size ≤ gb258));clear HB;have HB:=n0_;have BK258:=n1_;have GW258:=n2_;have GE258:=n3_;clear n0_ n1_ n2_ n3_;clear hb hbox hg)|((with_reducible refine gate_dst (N:=3) rfl ?_);refine box_event ?hg (N:=3) ?hd (cs:=#[.int .i64 a1_0,.bool a1_1,.int .i64 a1_2,.slice A1_3 l1_3.length c1_3,.slice A1_4 l1_4.length c1_4,.bool a1_5,.bool a1_6]) (t:=26) ?hr ?_;(case hd=>rfl);(case hg=>rfl);(case hr=>first|(go_simp;done)|(go_simp;rfl));intro gb259 hg w33 hbox hb;have n0_:=Aside0.mk (blk_below (g:=gb258) (o:=.cells #[.int .i64 a0_0,.bool a0_1,.int .i64 a0_2,.slice A0_3 l0_3.length c0_3,.slice A0_4 l0_4.length c0_4,.bool a0_5,.bool a0_6] 26 (0,0)) (by (with_reducible repeat (first|refine blk_drewN ?_ _|refine blk_drew ?_|refine blk_alloc ?_ _));exact BK258.out) hb);have n1_:=Aside0.mk (below_step (by repeat (first|(with_reducible first|exact HB.out|apply below_alloc|apply pw_below_drewN|apply below_drew1|refine below_set ?_ GE258.out)|exact HB.out)) hb);have n2_:=Aside0.mk (hbox);have n3_:=Aside0.mk ((by rw [hg];exact (below_size (by repeat (first|(with_reducible first|exact HB.out|apply below_alloc|apply pw_below_drewN|apply below_drew1|refine below_set ?_ GE258.out)|exact HB.out))) : w.heap.size ≤ gb259));have n4_:=Aside0.mk ((by rw [hg];exact (below_size (by repeat (first|(with_reducible first|exact HB.out|apply below_alloc|apply pw_below_drewN|apply below_drew1|refine below_set ?_ GE258.out)|exact HB.out))) : w.heap.size ≤ gb259));have n5_:=Aside0.mk ((by rw [hg];exact Nat.ne_of_lt (blk_lt (g:=gb258) (o:=.cells #[.int .i64 a0_0,.bool a0_1,.int .i64 a0_2,.slice A0_3 l0_3.length c0_3,.slice A0_4 l0_4.length c0_4,.bool a0_5,.bool a0_6] 26 (0,0)) (by (with_reducible repeat (first|refine blk_drewN ?_ _|refine blk_drew ?_|refine blk_alloc ?_ _));exact BK258.out)) : gb258 ≠ gb259));have n6_:=Aside0.mk ((by rw [hg];exact Nat.ne_of_gt (blk_lt (g:=gb258) (o:=.cells #[.int .i64 a0_0,.bool a0_1,.int .i64 a0_2,.slice A0_3 l0_3.length c0_3,.slice A0_4 l0_4.length c0_4,.bool a0_5,.bool a0_6] 26 (0,0)) (by (with_reducible repeat (first|refine blk_drewN ?_ _|refine blk_drew ?_|refine blk_alloc ?_ _));exact BK258.out)) : gb259 ≠ gb258));clear BK258;clear HB;have BK258:=n0_;have HB:=n1_;have BK259:=n2_;have GW259:=n3_;have GE259:=n4_;have NB258_259:=n5_;have NB259_258:=n6_;clear n0_ n1_ n2_ n3_ n4_ n5_ n6_;clear hb hbox hg;have hnb34:=NB258_259.out;have hnc34:=NB259_258.out;have hcz35_0 : w33.cell? ⟨gb258,0,none⟩ = some (.int .i64 a0_0):=(blk_cell BK258.out 0).trans rfl;have hcz35_1 : w33.cell? ⟨gb258,1,none⟩ = some (.bool a0_1):=(blk_cell BK258.out 1).trans rfl;have hcz35_2 : w33.cell? ⟨gb258,2,none⟩ = some (.int .i64 a0_2):=(blk_cell BK258.out 2).trans rfl;have hcz35_3 : w33.cell? ⟨gb258,3,none⟩ = some (.slice A0_3 l0_3.length c0_3):=(blk_cell BK258.out 3).trans rfl;have hcz35_4 : w33.cell? ⟨gb258,4,none⟩ = some (.slice A0_4 l0_4.length c0_4):=(blk_cell BK258.out 4).trans rfl;have hcz35_5 : w33.cell? ⟨gb258,5,none⟩ = some (.bool a0_5):=(blk_cell BK258.out 5).trans rfl;have hcz35_6 : w33.cell? ⟨gb258,6,none⟩ = some (.bool a0_6):=(blk_cell BK258.out 6).trans rfl;have hfz35_0:=blk_frozen BK258.out 0;have hfz35_1:=blk_frozen BK258.out 1;have hfz35_2:=blk_frozen BK258.out 2;have hfz35_3:=blk_frozen BK258.out 3;have hfz35_4:=blk_frozen BK258.out 4;have hfz35_5:=blk_frozen BK258.out 5;have hfz35_6:=blk_frozen BK258.out 6;have hcz36_0 : w33.cell? ⟨gb259,0,none⟩ = some (.int .i64 a1_0):=(blk_cell BK259.out 0).trans rfl;have hcz36_1 : w33.cell? ⟨gb259,1,none⟩ = some (.bool a1_1):=(blk_cell BK259.out 1).trans rfl;have hcz36_2 : w33.cell? ⟨gb259,2,none⟩ = some (.int .i64 a1_2):=(blk_cell BK259.out 2).trans rfl;have hcz36_3 : w33.cell? ⟨gb259,3,none⟩ = some (.slice A1_3 l1_3.length c1_3):=(blk_cell BK259.out 3).trans rfl;have hcz36_4 : w33.cell? ⟨gb259,4,none⟩ = some (.slice A1_4 l1_4.length c1_4):=(blk_cell BK259.out 4).trans rfl;have hcz36_5 : w33.cell? ⟨gb259,5,none⟩ = some (.bool a1_5):=(blk_cell BK259.out 5).trans rfl;have hcz36_6 : w33.cell? ⟨gb259,6,none⟩ = some (.bool a1_6):=(blk_cell BK259.out 6).trans rfl;have hfz36_0:=blk_frozen BK259.out 0;have hfz36_1:=blk_frozen BK259.out 1;have hfz36_2:=blk_frozen BK259.out 2;have hfz36_3:=blk_frozen BK259.out 3;have hfz36_4:=blk_frozen BK259.out 4;have hfz36_5:=blk_frozen BK259.out 5;have hfz36_6:=blk_frozen BK259.out 6)|((with_reducible refine gate_callee (f:=41) rfl ?_);refine goesL_ (some 24) rfl rfl Try.func41 (by kernel_rfl) rfl #[.slice A0_3 l0_3.length c0_3,.slice A1_3 l1_3.length c1_3] rfl (by (try simp only [List.map_toArray,List.map_cons,List.map_nil]);first|done|rfl|(simp only [List.length_drop,List.length_take];rfl)) ?_;(with_reducible refine (laws_eqIntS.calls k _ _ l0_3 _ _ l1_3 true _ ?side1 ?side2 ?side3 ?side4 A11.out).mono ?_);(case side1=>repeat (first|exact (Kd.C_below HR0_3.out HB.out)|(with_reducible refine Kd.C_alloc ?_ _)|(with_reducible refine Kd.C_drewN ?_ _)|(with_reducible refine Kd.C_drew ?_)));(case side2=>exact HC0_3.out);(case side3=>repeat (first|exact (Kd.C_below HR1_3.out HB.out)|(with_reducible refine Kd.C_alloc ?_ _)|(with_reducible refine Kd.C_drewN ?_ _)|(with_reducible refine Kd.C_drew ?_)));(case side4=>exact HC1_3.out);rintro e w' ⟨rfl,⟨nd,rfl⟩⟩;refine ⟨_,rfl,?_⟩)|((with_reducible refine gate_callee (f:=41) rfl ?_);refine goesL_ (some 30) rfl rfl Try.func41 (by kernel_rfl) rfl #[.slice A0_4 l0_4.length c0_4,.slice A1_4 l1_4.length c1_4] rfl (by (try simp only [List.map_toArray,List.map_cons,List.map_nil]);first|done|rfl|(simp only [List.length_drop,List.length_take];rfl)) ?_;(with_reducible refine (laws_eqIntS.calls k _ _ l0_4 _ _ l1_4 false _ ?side1 ?side2 ?side3 ?side4 A13.out).mono ?_);(case side1=>repeat (first|exact (Kd.C_below HR0_4.out (by repeat (first|(with_reducible first|exact HB.out|apply below_alloc|apply pw_below_drewN|apply below_drew1|refine below_set ?_ GE258.out|refine below_set ?_ GE259.out)|exact HB.out)))|(with_reducible refine Kd.C_alloc ?_ _)|(with_reducible refine Kd.C_drewN ?_ _)|(with_reducible refine Kd.C_drew ?_)));(case side2=>exact HC0_4.out);(case side3=>repeat (first|exact (Kd.C_below HR1_4.out (by repeat (first|(with_reducible first|exact HB.out|apply below_alloc|apply pw_below_drewN|apply below_drew1|refine below_set ?_ GE258.out|refine below_set ?_ GE259.out)|exact HB.out)))|(with_reducible refine Kd.C_alloc ?_ _)|(with_reducible refine Kd.C_drewN ?_ _)|(with_reducible refine Kd.C_drew ?_)));(case side4=>exact HC1_4.out);rintro e w' ⟨rfl,⟨nd,rfl⟩⟩;refine ⟨_,rfl,?_⟩))
      go_ret
      exact ⟨by first|rfl|(simp [errW_none,errW_some] <;> rfl)|(simp [*,errW_none,errW_some] <;> rfl),by repeat (first|(with_reducible first|exact HB.out|apply below_alloc|apply pw_below_drewN|apply below_drew1|refine below_set ?_ GE258.out|refine below_set ?_ GE259.out)|exact HB.out)⟩
    ·replace c12:=Bool.eq_false_iff.mpr c12
     subst c12
     have H1 : (some false)=some r:=by rw [if_neg (show ¬ (false=true) by decide)] at H;exact H
     clear H
     have H:=H1
     clear H1
     obtain rfl:=Option.some.inj H
     go_enter Try.func35,Try.ntmps35
     go_wp2_with (first|((with_reducible refine gate_dst (N:=2) rfl ?_);refine box_event ?hg (N:=2) ?hd (cs:=#[.int .i64 a0_0,.bool a0_1,.int .i64 a0_2,.slice A0_3 l0_3.length c0_3,.slice A0_4 l0_4.length c0_4,.bool a0_5,.bool a0_6]) (t:=26) ?hr ?_;(case hd=>rfl);(case hg=>rfl);(case hr=>first|(go_simp;done)|(go_simp;rfl));intro gb258 hg w37 hbox hb;have n0_:=Aside0.mk (below_step (by repeat (first|(with_reducible first|exact HB.out|apply below_alloc|apply pw_below_drewN|apply below_drew1)|exact HB.out)) hb);have n1_:=Aside0.mk (hbox);have n2_:=Aside0.mk ((by rw [hg];exact (below_size (by repeat (first|(with_reducible first|exact HB.out|apply below_alloc|apply pw_below_drewN|apply below_drew1)|exact HB.out))) : w.heap.size ≤ gb258));have n3_:=Aside0.mk ((by rw [hg];exact (below_size (by repeat (first|(with_reducible first|exact HB.out|apply below_alloc|apply pw_below_drewN|apply below_drew1)|exact HB.out))) : w.heap.size ≤ gb258));clear HB;have HB:=n0_;have BK258:=n1_;have GW258:=n2_;have GE258:=n3_;clear n0_ n1_ n2_ n3_;clear hb hbox hg)|((with_reducible refine gate_dst (N:=3) rfl ?_);refine box_event ?hg (N:=3) ?hd (cs:=#[.int .i64 a1_0,.bool a1_1,.int .i64 a1_2,.slice A1_3 l1_3.length c1_3,.slice A1_4 l1_4.length c1_4,.bool a1_5,.bool a1_6]) (t:=26) ?hr ?_;(case hd=>rfl);(case hg=>rfl);(case hr=>first|(go_simp;done)|(go_simp;rfl));intro gb259 hg w38 hbox hb;have n0_:=Aside0.mk (blk_below (g:=gb258) (o:=.cells #[.int .i64 a0_0,.bool a0_1,.int .i64 a0_2,.slice A0_3 l0_3.length c0_3,.slice A0_4 l0_4.length c0_4,.bool a0_5,.bool a0_6] 26 (0,0)) (by (with_reducible repeat (first|refine blk_drewN ?_ _|refine blk_drew ?_|refine blk_alloc ?_ _));exact BK258.out) hb);have n1_:=Aside0.mk (below_step (by repeat (first|(with_reducible first|exact HB.out|apply below_alloc|apply pw_below_drewN|apply below_drew1|refine below_set ?_ GE258.out)|exact HB.out)) hb);have n2_:=Aside0.mk (hbox);have n3_:=Aside0.mk ((by rw [hg];exact (below_size (by repeat (first|(with_reducible first|exact HB.out|apply below_alloc|apply pw_below_drewN|apply below_drew1|refine below_set ?_ GE258.out)|exact HB.out))) : w.heap.size ≤ gb259));have n4_:=Aside0.mk ((by rw [hg];exact (below_size (by repeat (first|(with_reducible first|exact HB.out|apply below_alloc|apply pw_below_drewN|apply below_drew1|refine below_set ?_ GE258.out)|exact HB.out))) : w.heap.size ≤ gb259));have n5_:=Aside0.mk ((by rw [hg];exact Nat.ne_of_lt (blk_lt (g:=gb258) (o:=.cells #[.int .i64 a0_0,.bool a0_1,.int .i64 a0_2,.slice A0_3 l0_3.length c0_3,.slice A0_4 l0_4.length c0_4,.bool a0_5,.bool a0_6] 26 (0,0)) (by (with_reducible repeat (first|refine blk_drewN ?_ _|refine blk_drew ?_|refine blk_alloc ?_ _));exact BK258.out)) : gb258 ≠ gb259));have n6_:=Aside0.mk ((by rw [hg];exact Nat.ne_of_gt (blk_lt (g:=gb258) (o:=.cells #[.int .i64 a0_0,.bool a0_1,.int .i64 a0_2,.slice A0_3 l0_3.length c0_3,.slice A0_4 l0_4.length c0_4,.bool a0_5,.bool a0_6] 26 (0,0)) (by (with_reducible repeat (first|refine blk_drewN ?_ _|refine blk_drew ?_|refine blk_alloc ?_ _));exact BK258.out)) : gb259 ≠ gb258));clear BK258;clear HB;have BK258:=n0_;have HB:=n1_;have BK259:=n2_;have GW259:=n3_;have GE259:=n4_;have NB258_259:=n5_;have NB259_258:=n6_;clear n0_ n1_ n2_ n3_ n4_ n5_ n6_;clear hb hbox hg;have hnb39:=NB258_259.out;have hnc39:=NB259_258.out;have hcz40_0 : w38.cell? ⟨gb258,0,none⟩ = some (.int .i64 a0_0):=(blk_cell BK258.out 0).trans rfl;have hcz40_1 : w38.cell? ⟨gb258,1,none⟩ = some (.bool a0_1):=(blk_cell BK258.out 1).trans rfl;have hcz40_2 : w38.cell? ⟨gb258,2,none⟩ = some (.int .i64 a0_2):=(blk_cell BK258.out 2).trans rfl;have hcz40_3 : w38.cell? ⟨gb258,3,none⟩ = some (.slice A0_3 l0_3.length c0_3):=(blk_cell BK258.out 3).trans rfl;have hcz40_4 : w38.cell? ⟨gb258,4,none⟩ = some (.slice A0_4 l0_4.length c0_4):=(blk_cell BK258.out 4).trans rfl;have hcz40_5 : w38.cell? ⟨gb258,5,none⟩ = some (.bool a0_5):=(blk_cell BK258.out 5).trans rfl;have hcz40_6 : w38.cell? ⟨gb258,6,none⟩ = some (.bool a0_6):=(blk_cell BK258.out 6).trans rfl;have hfz40_0:=blk_frozen BK258.out 0;have hfz40_1:=blk_frozen BK258.out 1;have hfz40_2:=blk_frozen BK258.out 2;have hfz40_3:=blk_frozen BK258.out 3;have hfz40_4:=blk_frozen BK258.out 4;have hfz40_5:=blk_frozen BK258.out 5;have hfz40_6:=blk_frozen BK258.out 6;have hcz41_0 : w38.cell? ⟨gb259,0,none⟩ = some (.int .i64 a1_0):=(blk_cell BK259.out 0).trans rfl;have hcz41_1 : w38.cell? ⟨gb259,1,none⟩ = some (.bool a1_1):=(blk_cell BK259.out 1).trans rfl;have hcz41_2 : w38.cell? ⟨gb259,2,none⟩ = some (.int .i64 a1_2):=(blk_cell BK259.out 2).trans rfl;have hcz41_3 : w38.cell? ⟨gb259,3,none⟩ = some (.slice A1_3 l1_3.length c1_3):=(blk_cell BK259.out 3).trans rfl;have hcz41_4 : w38.cell? ⟨gb259,4,none⟩ = some (.slice A1_4 l1_4.length c1_4):=(blk_cell BK259.out 4).trans rfl;have hcz41_5 : w38.cell? ⟨gb259,5,none⟩ = some (.bool a1_5):=(blk_cell BK259.out 5).trans rfl;have hcz41_6 : w38.cell? ⟨gb259,6,none⟩ = some (.bool a1_6):=(blk_cell BK259.out 6).trans rfl;have hfz41_0:=blk_frozen BK259.out 0;have hfz41_1:=blk_frozen BK259.out 1;have hfz41_2:=blk_frozen BK259.out 2;have hfz41_3:=blk_frozen BK259.out 3;have hfz41_4:=blk_frozen BK259.out 4;have hfz41_5:=blk_frozen BK259.out 5;have hfz41_6:=blk_frozen BK259.out 6)|((with_reducible refine gate_callee (f:=41) rfl ?_);refine goesL_ (some 24) rfl rfl Try.func41 (by kernel_rfl) rfl #[.slice A0_3 l0_3.length c0_3,.slice A1_3 l1_3.length c1_3] rfl (by (try simp only [List.map_toArray,List.map_cons,List.map_nil]);first|done|rfl|(simp only [List.length_drop,List.length_take];rfl)) ?_;(with_reducible refine (laws_eqIntS.calls k _ _ l0_3 _ _ l1_3 false _ ?side1 ?side2 ?side3 ?side4 A11.out).mono ?_);(case side1=>repeat (first|exact (Kd.C_below HR0_3.out HB.out)|(with_reducible refine Kd.C_alloc ?_ _)|(with_reducible refine Kd.C_drewN ?_ _)|(with_reducible refine Kd.C_drew ?_)));(case side2=>exact HC0_3.out);(case side3=>repeat (first|exact (Kd.C_below HR1_3.out HB.out)|(with_reducible refine Kd.C_alloc ?_ _)|(with_reducible refine Kd.C_drewN ?_ _)|(with_reducible refine Kd.C_drew ?_)));(case side4=>exact HC1_3.out);rintro e w' ⟨rfl,⟨nd,rfl⟩⟩;refine ⟨_,rfl,?_⟩))
     go_ret
     exact ⟨by first|rfl|(simp [errW_none,errW_some] <;> rfl)|(simp [*,errW_none,errW_some] <;> rfl),by repeat (first|(with_reducible first|exact HB.out|apply below_alloc|apply pw_below_drewN|apply below_drew1|refine below_set ?_ GE258.out|refine below_set ?_ GE259.out)|exact HB.out)⟩
   ·rw [if_neg c10] at H
    have c10b0 : (a0_2 == a1_2)=false:=beq_eq_false_iff_ne.mpr c10
    have c10b1 : (a0_2 != a1_2)=true:=bne_iff_ne.mpr c10
    obtain rfl:=Option.some.inj H
    go_enter Try.func35,Try.ntmps35
    go_wp2_with (first|((with_reducible refine gate_dst (N:=2) rfl ?_);refine box_event ?hg (N:=2) ?hd (cs:=#[.int .i64 a0_0,.bool a0_1,.int .i64 a0_2,.slice A0_3 l0_3.length c0_3,.slice A0_4 l0_4.length c0_4,.bool a0_5,.bool a0_6]) (t:=26) ?hr ?_;(case hd=>rfl);(case hg=>rfl);(case hr=>first|(go_simp;done)|(go_simp;rfl));intro gb258 hg w42 hbox hb;have n0_:=Aside0.mk (below_step (by repeat (first|(with_reducible first|exact HB.out|apply below_alloc|apply pw_below_drewN|apply below_drew1)|exact HB.out)) hb);have n1_:=Aside0.mk (hbox);have n2_:=Aside0.mk ((by rw [hg];exact (below_size (by repeat (first|(with_reducible first|exact HB.out|apply below_alloc|apply pw_below_drewN|apply below_drew1)|exact HB.out))) : w.heap.size ≤ gb258));have n3_:=Aside0.mk ((by rw [hg];exact (below_size (by repeat (first|(with_reducible first|exact HB.out|apply below_alloc|apply pw_below_drewN|apply below_drew1)|exact HB.out))) : w.heap.size ≤ gb258));clear HB;have HB:=n0_;have BK258:=n1_;have GW258:=n2_;have GE258:=n3_;clear n0_ n1_ n2_ n3_;clear hb hbox hg)|((with_reducible refine gate_dst (N:=3) rfl ?_);refine box_event ?hg (N:=3) ?hd (cs:=#[.int .i64 a1_0,.bool a1_1,.int .i64 a1_2,.slice A1_3 l1_3.length c1_3,.slice A1_4 l1_4.length c1_4,.bool a1_5,.bool a1_6]) (t:=26) ?hr ?_;(case hd=>rfl);(case hg=>rfl);(case hr=>first|(go_simp;done)|(go_simp;rfl));intro gb259 hg w43 hbox hb;have n0_:=Aside0.mk (blk_below (g:=gb258) (o:=.cells #[.int .i64 a0_0,.bool a0_1,.int .i64 a0_2,.slice A0_3 l0_3.length c0_3,.slice A0_4 l0_4.length c0_4,.bool a0_5,.bool a0_6] 26 (0,0)) (by (with_reducible repeat (first|refine blk_drewN ?_ _|refine blk_drew ?_|refine blk_alloc ?_ _));exact BK258.out) hb);have n1_:=Aside0.mk (below_step (by repeat (first|(with_reducible first|exact HB.out|apply below_alloc|apply pw_below_drewN|apply below_drew1|refine below_set ?_ GE258.out)|exact HB.out)) hb);have n2_:=Aside0.mk (hbox);have n3_:=Aside0.mk ((by rw [hg];exact (below_size (by repeat (first|(with_reducible first|exact HB.out|apply below_alloc|apply pw_below_drewN|apply below_drew1|refine below_set ?_ GE258.out)|exact HB.out))) : w.heap.size ≤ gb259));have n4_:=Aside0.mk ((by rw [hg];exact (below_size (by repeat (first|(with_reducible first|exact HB.out|apply below_alloc|apply pw_below_drewN|apply below_drew1|refine below_set ?_ GE258.out)|exact HB.out))) : w.heap.size ≤ gb259));have n5_:=Aside0.mk ((by rw [hg];exact Nat.ne_of_lt (blk_lt (g:=gb258) (o:=.cells #[.int .i64 a0_0,.bool a0_1,.int .i64 a0_2,.slice A0_3 l0_3.length c0_3,.slice A0_4 l0_4.length c0_4,.bool a0_5,.bool a0_6] 26 (0,0)) (by (with_reducible repeat (first|refine blk_drewN ?_ _|refine blk_drew ?_|refine blk_alloc ?_ _));exact BK258.out)) : gb258 ≠ gb259));have n6_:=Aside0.mk ((by rw [hg];exact Nat.ne_of_gt (blk_lt (g:=gb258) (o:=.cells #[.int .i64 a0_0,.bool a0_1,.int .i64 a0_2,.slice A0_3 l0_3.length c0_3,.slice A0_4 l0_4.length c0_4,.bool a0_5,.bool a0_6] 26 (0,0)) (by (with_reducible repeat (first|refine blk_drewN ?_ _|refine blk_drew ?_|refine blk_alloc ?_ _));exact BK258.out)) : gb259 ≠ gb258));clear BK258;clear HB;have BK258:=n0_;have HB:=n1_;have BK259:=n2_;have GW259:=n3_;have GE259:=n4_;have NB258_259:=n5_;have NB259_258:=n6_;clear n0_ n1_ n2_ n3_ n4_ n5_ n6_;clear hb hbox hg;have hnb44:=NB258_259.out;have hnc44:=NB259_258.out;have hcz45_0 : w43.cell? ⟨gb258,0,none⟩ = some (.int .i64 a0_0):=(blk_cell BK258.out 0).trans rfl;have hcz45_1 : w43.cell? ⟨gb258,1,none⟩ = some (.bool a0_1):=(blk_cell BK258.out 1).trans rfl;have hcz45_2 : w43.cell? ⟨gb258,2,none⟩ = some (.int .i64 a0_2):=(blk_cell BK258.out 2).trans rfl;have hcz45_3 : w43.cell? ⟨gb258,3,none⟩ = some (.slice A0_3 l0_3.length c0_3):=(blk_cell BK258.out 3).trans rfl;have hcz45_4 : w43.cell? ⟨gb258,4,none⟩ = some (.slice A0_4 l0_4.length c0_4):=(blk_cell BK258.out 4).trans rfl;have hcz45_5 : w43.cell? ⟨gb258,5,none⟩ = some (.bool a0_5):=(blk_cell BK258.out 5).trans rfl;have hcz45_6 : w43.cell? ⟨gb258,6,none⟩ = some (.bool a0_6):=(blk_cell BK258.out 6).trans rfl;have hfz45_0:=blk_frozen BK258.out 0;have hfz45_1:=blk_frozen BK258.out 1;have hfz45_2:=blk_frozen BK258.out 2;have hfz45_3:=blk_frozen BK258.out 3;have hfz45_4:=blk_frozen BK258.out 4;have hfz45_5:=blk_frozen BK258.out 5;have hfz45_6:=blk_frozen BK258.out 6;have hcz46_0 : w43.cell? ⟨gb259,0,none⟩ = some (.int .i64 a1_0):=(blk_cell BK259.out 0).trans rfl;have hcz46_1 : w43.cell? ⟨gb259,1,none⟩ = some (.bool a1_1):=(blk_cell BK259.out 1).trans rfl;have hcz46_2 : w43.cell? ⟨gb259,2,none⟩ = some (.int .i64 a1_2):=(blk_cell BK259.out 2).trans rfl;have hcz46_3 : w43.cell? ⟨gb259,3,none⟩ = some (.slice A1_3 l1_3.length c1_3):=(blk_cell BK259.out 3).trans rfl;have hcz46_4 : w43.cell? ⟨gb259,4,none⟩ = some (.slice A1_4 l1_4.length c1_4):=(blk_cell BK259.out 4).trans rfl;have hcz46_5 : w43.cell? ⟨gb259,5,none⟩ = some (.bool a1_5):=(blk_cell BK259.out 5).trans rfl;have hcz46_6 : w43.cell? ⟨gb259,6,none⟩ = some (.bool a1_6):=(blk_cell BK259.out 6).trans rfl;have hfz46_0:=blk_frozen BK259.out 0;have hfz46_1:=blk_frozen BK259.out 1;have hfz46_2:=blk_frozen BK259.out 2;have hfz46_3:=blk_frozen BK259.out 3;have hfz46_4:=blk_frozen BK259.out 4;have hfz46_5:=blk_frozen BK259.out 5;have hfz46_6:=blk_frozen BK259.out 6))
    go_ret
    exact ⟨by first|rfl|(simp [errW_none,errW_some] <;> rfl)|(simp [*,errW_none,errW_some] <;> rfl),by repeat (first|(with_reducible first|exact HB.out|apply below_alloc|apply pw_below_drewN|apply below_drew1|refine below_set ?_ GE258.out|refine below_set ?_ GE259.out)|exact HB.out)⟩
 ·rw [if_neg c3] at H
  have c3b0 : (a0_0 == a1_0)=false:=beq_eq_false_iff_ne.mpr c3
  have c3b1 : (a0_0 != a1_0)=true:=bne_iff_ne.mpr c3
  obtain rfl:=Option.some.inj H
  go_enter Try.func35,Try.ntmps35
  go_wp2_with (first|((with_reducible refine gate_dst (N:=2) rfl ?_);refine box_event ?hg (N:=2) ?hd (cs:=#[.int .i64 a0_0,.bool a0_1,.int .i64 a0_2,.slice A0_3 l0_3.length c0_3,.slice A0_4 l0_4.length c0_4,.bool a0_5,.bool a0_6]) (t:=26) ?hr ?_;(case hd=>rfl);(case hg=>rfl);(case hr=>first|(go_simp;done)|(go_simp;rfl));intro gb258 hg w47 hbox hb;have n0_:=Aside0.mk (below_step (by repeat (first|(with_reducible first|exact HB.out|apply below_alloc|apply pw_below_drewN|apply below_drew1)|exact HB.out)) hb);have n1_:=Aside0.mk (hbox);have n2_:=Aside0.mk ((by rw [hg];exact (below_size (by repeat (first|(with_reducible first|exact HB.out|apply below_alloc|apply pw_below_drewN|apply below_drew1)|exact HB.out))) : w.heap.size ≤ gb258));have n3_:=Aside0.mk ((by rw [hg];exact (below_size (by repeat (first|(with_reducible first|exact HB.out|apply below_alloc|apply pw_below_drewN|apply below_drew1)|exact HB.out))) : w.heap.size ≤ gb258));clear HB;have HB:=n0_;have BK258:=n1_;have GW258:=n2_;have GE258:=n3_;clear n0_ n1_ n2_ n3_;clear hb hbox hg)|((with_reducible refine gate_dst (N:=3) rfl ?_);refine box_event ?hg (N:=3) ?hd (cs:=#[.int .i64 a1_0,.bool a1_1,.int .i64 a1_2,.slice A1_3 l1_3.length c1_3,.slice A1_4 l1_4.length c1_4,.bool a1_5,.bool a1_6]) (t:=26) ?hr ?_;(case hd=>rfl);(case hg=>rfl);(case hr=>first|(go_simp;done)|(go_simp;rfl));intro gb259 hg w48 hbox hb;have n0_:=Aside0.mk (blk_below (g:=gb258) (o:=.cells #[.int .i64 a0_0,.bool a0_1,.int .i64 a0_2,.slice A0_3 l0_3.length c0_3,.slice A0_4 l0_4.length c0_4,.bool a0_5,.bool a0_6] 26 (0,0)) (by (with_reducible repeat (first|refine blk_drewN ?_ _|refine blk_drew ?_|refine blk_alloc ?_ _));exact BK258.out) hb);have n1_:=Aside0.mk (below_step (by repeat (first|(with_reducible first|exact HB.out|apply below_alloc|apply pw_below_drewN|apply below_drew1|refine below_set ?_ GE258.out)|exact HB.out)) hb);have n2_:=Aside0.mk (hbox);have n3_:=Aside0.mk ((by rw [hg];exact (below_size (by repeat (first|(with_reducible first|exact HB.out|apply below_alloc|apply pw_below_drewN|apply below_drew1|refine below_set ?_ GE258.out)|exact HB.out))) : w.heap.size ≤ gb259));have n4_:=Aside0.mk ((by rw [hg];exact (below_size (by repeat (first|(with_reducible first|exact HB.out|apply below_alloc|apply pw_below_drewN|apply below_drew1|refine below_set ?_ GE258.out)|exact HB.out))) : w.heap.size ≤ gb259));have n5_:=Aside0.mk ((by rw [hg];exact Nat.ne_of_lt (blk_lt (g:=gb258) (o:=.cells #[.int .i64 a0_0,.bool a0_1,.int .i64 a0_2,.slice A0_3 l0_3.length c0_3,.slice A0_4 l0_4.length c0_4,.bool a0_5,.bool a0_6] 26 (0,0)) (by (with_reducible repeat (first|refine blk_drewN ?_ _|refine blk_drew ?_|refine blk_alloc ?_ _));exact BK258.out)) : gb258 ≠ gb259));have n6_:=Aside0.mk ((by rw [hg];exact Nat.ne_of_gt (blk_lt (g:=gb258) (o:=.cells #[.int .i64 a0_0,.bool a0_1,.int .i64 a0_2,.slice A0_3 l0_3.length c0_3,.slice A0_4 l0_4.length c0_4,.bool a0_5,.bool a0_6] 26 (0,0)) (by (with_reducible repeat (first|refine blk_drewN ?_ _|refine blk_drew ?_|refine blk_alloc ?_ _));exact BK258.out)) : gb259 ≠ gb258));clear BK258;clear HB;have BK258:=n0_;have HB:=n1_;have BK259:=n2_;have GW259:=n3_;have GE259:=n4_;have NB258_259:=n5_;have NB259_258:=n6_;clear n0_ n1_ n2_ n3_ n4_ n5_ n6_;clear hb hbox hg;have hnb49:=NB258_259.out;have hnc49:=NB259_258.out;have hcz50_0 : w48.cell? ⟨gb258,0,none⟩ = some (.int .i64 a0_0):=(blk_cell BK258.out 0).trans rfl;have hcz50_1 : w48.cell? ⟨gb258,1,none⟩ = some (.bool a0_1):=(blk_cell BK258.out 1).trans rfl;have hcz50_2 : w48.cell? ⟨gb258,2,none⟩ = some (.int .i64 a0_2):=(blk_cell BK258.out 2).trans rfl;have hcz50_3 : w48.cell? ⟨gb258,3,none⟩ = some (.slice A0_3 l0_3.length c0_3):=(blk_cell BK258.out 3).trans rfl;have hcz50_4 : w48.cell? ⟨gb258,4,none⟩ = some (.slice A0_4 l0_4.length c0_4):=(blk_cell BK258.out 4).trans rfl;have hcz50_5 : w48.cell? ⟨gb258,5,none⟩ = some (.bool a0_5):=(blk_cell BK258.out 5).trans rfl;have hcz50_6 : w48.cell? ⟨gb258,6,none⟩ = some (.bool a0_6):=(blk_cell BK258.out 6).trans rfl;have hfz50_0:=blk_frozen BK258.out 0;have hfz50_1:=blk_frozen BK258.out 1;have hfz50_2:=blk_frozen BK258.out 2;have hfz50_3:=blk_frozen BK258.out 3;have hfz50_4:=blk_frozen BK258.out 4;have hfz50_5:=blk_frozen BK258.out 5;have hfz50_6:=blk_frozen BK258.out 6;have hcz51_0 : w48.cell? ⟨gb259,0,none⟩ = some (.int .i64 a1_0):=(blk_cell BK259.out 0).trans rfl;have hcz51_1 : w48.cell? ⟨gb259,1,none⟩ = some (.bool a1_1):=(blk_cell BK259.out 1).trans rfl;have hcz51_2 : w48.cell? ⟨gb259,2,none⟩ = some (.int .i64 a1_2):=(blk_cell BK259.out 2).trans rfl;have hcz51_3 : w48.cell? ⟨gb259,3,none⟩ = some (.slice A1_3 l1_3.length c1_3):=(blk_cell BK259.out 3).trans rfl;have hcz51_4 : w48.cell? ⟨gb259,4,none⟩ = some (.slice A1_4 l1_4.length c1_4):=(blk_cell BK259.out 4).trans rfl;have hcz51_5 : w48.cell? ⟨gb259,5,none⟩ = some (.bool a1_5):=(blk_cell BK259.out 5).trans rfl;have hcz51_6 : w48.cell? ⟨gb259,6,none⟩ = some (.bool a1_6):=(blk_cell BK259.out 6).trans rfl;have hfz51_0:=blk_frozen BK259.out 0;have hfz51_1:=blk_frozen BK259.out 1;have hfz51_2:=blk_frozen BK259.out 2;have hfz51_3:=blk_frozen BK259.out 3;have hfz51_4:=blk_frozen BK259.out 4;have hfz51_5:=blk_frozen BK259.out 5;have hfz51_6:=blk_frozen BK259.out 6))
  go_ret
  exact ⟨by first|rfl|(simp [errW_none,errW_some] <;> rfl)|(simp [*,errW_none,errW_some] <;> rfl),by repeat (first|(with_reducible first|exact HB.out|apply below_alloc|apply pw_below_drewN|apply below_drew1|refine below_set ?_ GE258.out|refine below_set ?_ GE259.out)|exact HB.out)⟩

end Go.Proofs.Ytmpnedpokdaejaa.QFnExactOldTurn
