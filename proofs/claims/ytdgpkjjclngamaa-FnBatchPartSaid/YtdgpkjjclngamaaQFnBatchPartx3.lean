-- Written by this session's program wip/ownprint.py.
import Derived.Test.YtdgpkjjclngamaaQFnBatchPartx0
import Derived.Test.YtdgpkjjclngamaaQFnBatchPartx1
import Derived.Test.YtdgpkjjclngamaaQFnBatchPartx2
namespace Go.Proofs.Ytdgpkjjclngamaa.QFnBatchPart
open Go.RowKit Go.Proofs.YtdgpkjjclngamaaW.PrintWords Go.Proofs.YtdgpkjjclngamaaW.PrintLast Go.Proofs.YtdgpkjjclngamaaW.PrintMore
attribute [local go_sem] max2_int min2_int max_two min_two max_three min_three max_four min_four   -- for this text's walks alone
set_option linter.unusedVariables false
set_option linter.unusedSimpArgs false

/-! ### spec_l91Batch: function 75 -/
def spec_l91Batch.j0 : Nat→List Int→Int→Bool→Bool→Int→Int→Int→List (S27)→Option (Bool × Bool × Int × Int × Int × (List (S27)) × Int)
 | 0,_,_,_,_,_,_,_,_=>none
 | k + 1,x1000,x1001,x177000,x177001,x177002,x177003,x177004,x177005=>(spec_l6Rd_pick.f k x1000 x1001 40).bind fun bt200=>(if bt200.1=0 then ((some (([(-1),1,100] : List Int) : List Int)).bind fun y202=>((spec_l6Rd_pick.f k x1000 bt200.2 3).bind fun bt205=>(if 0 ≤ bt205.1 then (if bt205.1 < (y202.length : Int) then (some (x177000,x177001,x177002,rd y202 bt205.1,x177004,x177005,bt205.2)) else (none)) else (none)))) else (if bt200.1=1 then (if 0 < (x177005.length : Int) then (if x177005.length < 1759218604441 then (some (x177000,x177001,x177002,x177003,x177004,(x177005 ++ [(⟨(rd_T27 x177005 0).f0,(rd_T27 x177005 0).f1,(rd_T27 x177005 0).f2,(rd_T27 x177005 0).f3,(rd_T27 x177005 0).f4,(rd_T27 x177005 0).f5⟩ : S27)]),bt200.2)) else (none)) else (none)) else (if bt200.1=2 then (some (x177000, !x177001,x177002,x177003,x177004,x177005,bt200.2)) else (some (x177000,x177001,x177002,x177003,x177004,x177005,bt200.2)))))
def spec_l91Batch.f (k : Nat) (s0_0 : List Int) (s0_1 : Int) (a1 : Int) : Option (Bool × Bool × Int × Int × Int × (List (S27)) × Int):=(spec_l6Rd_pick.f k s0_0 s0_1 2).bind fun bt170=>((spec_l91Records.f k s0_0 bt170.2 a1 4).bind fun bt172=>((spec_l6Rd_pick.f k s0_0 bt172.2 3).bind fun bt177=>(if bt177.1=0 then ((spec_l6Rd_pick.f k s0_0 bt177.2 3).bind fun bt179=>((spec_l6Rd_pick.f k s0_0 bt179.2 3).bind fun bt181=>((spec_l6Rd_pick.f k s0_0 bt181.2 5).bind fun bt183=>((spec_l6Rd_pick.f k s0_0 bt183.2 3).bind fun bt185=>(if bt185.1=0 then ((spec_l6Rd_pick.f k s0_0 bt185.2 200).bind fun bt187=>((spec_l6Rd_pick.f k s0_0 bt187.2 2).bind fun bt192=>(spec_l91Batch.j0 k s0_0 bt192.2 (bt170.1 == 0) true bt179.1 bt181.1 bt183.1 (([(⟨a1,bt187.1,false,(([] : List Int)),true,(([bt192.1] : List Int))⟩ : S27)] : List (S27)))))) else (spec_l91Batch.j0 k s0_0 bt185.2 (bt170.1 == 0) false bt179.1 bt181.1 bt183.1 bt172.1)))))) else (spec_l91Batch.j0 k s0_0 bt177.2 (bt170.1 == 0) false 255 0 0 bt172.1))))
theorem spec_l91Batch.mono_l : ∀ k,(∀ y0 y1 y2 y3 y4 y5 y6 y7,LeO (spec_l91Batch.j0 k y0 y1 y2 y3 y4 y5 y6 y7) (spec_l91Batch.j0 (k + 1) y0 y1 y2 y3 y4 y5 y6 y7))
 | 0=>fun _ _ _ _ _ _ _ _ r h=>by simp [spec_l91Batch.j0] at h
 | k + 1=>by
  have ih0:=spec_l91Batch.mono_l k
  ·intro y0 y1 y2 y3 y4 y5 y6 y7
   unfold spec_l91Batch.j0
   repeat' first
   | (with_reducible exact ih0 _ _ _ _ _ _ _ _)
   | (with_reducible exact spec_l6Rd_pick.mono _ _ _ _)
   | (with_reducible exact spec_l91Records.mono _ _ _ _ _)
   | (with_reducible exact LeO.refl _)
   | (with_reducible exact LeO.none _)
   | (with_reducible refine LeO.ite ?_ ?_)
   | (with_reducible refine LeO.bind ?_ (fun _=>?_))
   | exact ih0 _ _ _ _ _ _ _ _
   | exact spec_l6Rd_pick.mono _ _ _ _
   | exact spec_l91Records.mono _ _ _ _ _
   | exact LeO.none _
   | refine LeO.ite ?_ ?_
   | refine LeO.bind ?_ (fun _=>?_)
theorem spec_l91Batch.mono : ∀ a0 a1 a2 k,LeO (spec_l91Batch.f k a0 a1 a2) (spec_l91Batch.f (k + 1) a0 a1 a2):=by
 intro a0 a1 a2 k
 have ih0:=spec_l91Batch.mono_l k
 unfold spec_l91Batch.f
 repeat' first
   | (with_reducible exact ih0 _ _ _ _ _ _ _ _)
   | (with_reducible exact spec_l6Rd_pick.mono _ _ _ _)
   | (with_reducible exact spec_l91Records.mono _ _ _ _ _)
   | (with_reducible exact LeO.refl _)
   | (with_reducible exact LeO.none _)
   | (with_reducible refine LeO.ite ?_ ?_)
   | (with_reducible refine LeO.bind ?_ (fun _=>?_))
   | exact ih0 _ _ _ _ _ _ _ _
   | exact spec_l6Rd_pick.mono _ _ _ _
   | exact spec_l91Records.mono _ _ _ _ _
   | exact LeO.none _
   | refine LeO.ite ?_ ?_
   | refine LeO.bind ?_ (fun _=>?_)
def spec_l91Batch.T13 : Bool × List (List Nat × List Nat):=(true,[([],[]),([0],[0]),([],[]),([2],[2]),([3],[3]),([4],[4]),([5],[5]),([1,6],[1,6]),([0,1,2,3,4,5,6,7],[]),([8,7,7,0,1,2,3,4,5,6,7],[7,8])])
def spec_l91Batch.B13 : List Nat:=[0,1,0,4,12,28,60,127,255,511]
theorem spec_l91Batch.tab13 : rtab .any (opsOf Try.f75 13)=spec_l91Batch.T13:=by kernel_rfl
theorem spec_l91Batch.bits13 : waitsOk spec_l91Batch.T13.2 spec_l91Batch.B13=true:=by kernel_rfl
set_option maxHeartbeats 8000000 in
set_option maxRecDepth 100000 in
theorem spec_l91Batch.calls (k : Nat) (g : Nat) (s0_0 : List Int) (s0_1 : Int) (a1 : Int) (r1 : Bool) (r2 : Bool) (r3 : Int) (r4 : Int) (r5 : Int) (r6 : List (S27)) (r7 : Int) (w0 w : World) (hI : IsS91 w0 w g s0_0 s0_1) (hB : Below w0.heap.size w0 w) (h : spec_l91Batch.f k s0_0 s0_1 a1=some (r1,r2,r3,r4,r5,r6,r7)) :
  Calls Try.prog 75 #[.pointer (some ⟨g,0,none⟩),.int .i64 a1] w fun e w'=>∃ v5_ : Value,e = .returned (.agg #[.bool r1,.bool r2,.int .i64 r3,.int .i64 r4,.int .i64 r5,v5_])∧Kd.N k27 27 w' w.heap.size (fun k_=>(w.heap.size ≤ k_)) v5_ r6∧IsS91 w0 w' g s0_0 r7∧Below w0.heap.size w0 w'∧KeepBut w w' g none:=by
 have hu54:=Try.underlying54
 have hu27:=Try.underlying27
 have HI0:=Aside0.mk hI
 have HK:=Aside0.mk (KeepBut.refl w g none)
 have HL:=Aside0.mk hB.size
 clear hI
 have HW0:=Aside0.mk hB.size
 have HB:=Aside0.mk hB
 clear hB
 have H : ((spec_l6Rd_pick.f k s0_0 s0_1 2).bind fun bt170=>((spec_l91Records.f k s0_0 bt170.2 a1 4).bind fun bt172=>((spec_l6Rd_pick.f k s0_0 bt172.2 3).bind fun bt177=>(if bt177.1=0 then ((spec_l6Rd_pick.f k s0_0 bt177.2 3).bind fun bt179=>((spec_l6Rd_pick.f k s0_0 bt179.2 3).bind fun bt181=>((spec_l6Rd_pick.f k s0_0 bt181.2 5).bind fun bt183=>((spec_l6Rd_pick.f k s0_0 bt183.2 3).bind fun bt185=>(if bt185.1=0 then ((spec_l6Rd_pick.f k s0_0 bt185.2 200).bind fun bt187=>((spec_l6Rd_pick.f k s0_0 bt187.2 2).bind fun bt192=>(spec_l91Batch.j0 k s0_0 bt192.2 (bt170.1 == 0) true bt179.1 bt181.1 bt183.1 (([(⟨a1,bt187.1,false,(([] : List Int)),true,(([bt192.1] : List Int))⟩ : S27)] : List (S27)))))) else (spec_l91Batch.j0 k s0_0 bt185.2 (bt170.1 == 0) false bt179.1 bt181.1 bt183.1 bt172.1)))))) else (spec_l91Batch.j0 k s0_0 bt177.2 (bt170.1 == 0) false 255 0 0 bt172.1)))))=some (r1,r2,r3,r4,r5,r6,r7):=h
 clear h
 replace H:=Option.bind_eq_some_iff.mp H
 obtain ⟨⟨t170,t171⟩,A30,H⟩:=H
 replace H : ((spec_l91Records.f k s0_0 t171 a1 4).bind fun bt172=>((spec_l6Rd_pick.f k s0_0 bt172.2 3).bind fun bt177=>(if bt177.1=0 then ((spec_l6Rd_pick.f k s0_0 bt177.2 3).bind fun bt179=>((spec_l6Rd_pick.f k s0_0 bt179.2 3).bind fun bt181=>((spec_l6Rd_pick.f k s0_0 bt181.2 5).bind fun bt183=>((spec_l6Rd_pick.f k s0_0 bt183.2 3).bind fun bt185=>(if bt185.1=0 then ((spec_l6Rd_pick.f k s0_0 bt185.2 200).bind fun bt187=>((spec_l6Rd_pick.f k s0_0 bt187.2 2).bind fun bt192=>(spec_l91Batch.j0 k s0_0 bt192.2 (t170 == 0) true bt179.1 bt181.1 bt183.1 (([(⟨a1,bt187.1,false,(([] : List Int)),true,(([bt192.1] : List Int))⟩ : S27)] : List (S27)))))) else (spec_l91Batch.j0 k s0_0 bt185.2 (t170 == 0) false bt179.1 bt181.1 bt183.1 bt172.1)))))) else (spec_l91Batch.j0 k s0_0 bt177.2 (t170 == 0) false 255 0 0 bt172.1))))=some (r1,r2,r3,r4,r5,r6,r7):=H
 have A3:=Aside0.mk A30
 clear A30
 replace H:=Option.bind_eq_some_iff.mp H
 obtain ⟨⟨t172,t175⟩,A40,H⟩:=H
 replace H : ((spec_l6Rd_pick.f k s0_0 t175 3).bind fun bt177=>(if bt177.1=0 then ((spec_l6Rd_pick.f k s0_0 bt177.2 3).bind fun bt179=>((spec_l6Rd_pick.f k s0_0 bt179.2 3).bind fun bt181=>((spec_l6Rd_pick.f k s0_0 bt181.2 5).bind fun bt183=>((spec_l6Rd_pick.f k s0_0 bt183.2 3).bind fun bt185=>(if bt185.1=0 then ((spec_l6Rd_pick.f k s0_0 bt185.2 200).bind fun bt187=>((spec_l6Rd_pick.f k s0_0 bt187.2 2).bind fun bt192=>(spec_l91Batch.j0 k s0_0 bt192.2 (t170 == 0) true bt179.1 bt181.1 bt183.1 (([(⟨a1,bt187.1,false,(([] : List Int)),true,(([bt192.1] : List Int))⟩ : S27)] : List (S27)))))) else (spec_l91Batch.j0 k s0_0 bt185.2 (t170 == 0) false bt179.1 bt181.1 bt183.1 t172)))))) else (spec_l91Batch.j0 k s0_0 bt177.2 (t170 == 0) false 255 0 0 t172)))=some (r1,r2,r3,r4,r5,r6,r7):=H
 have A4:=Aside0.mk A40
 clear A40
 replace H:=Option.bind_eq_some_iff.mp H
 obtain ⟨⟨t177,t178⟩,A50,H⟩:=H
 replace H : (if t177=0 then ((spec_l6Rd_pick.f k s0_0 t178 3).bind fun bt179=>((spec_l6Rd_pick.f k s0_0 bt179.2 3).bind fun bt181=>((spec_l6Rd_pick.f k s0_0 bt181.2 5).bind fun bt183=>((spec_l6Rd_pick.f k s0_0 bt183.2 3).bind fun bt185=>(if bt185.1=0 then ((spec_l6Rd_pick.f k s0_0 bt185.2 200).bind fun bt187=>((spec_l6Rd_pick.f k s0_0 bt187.2 2).bind fun bt192=>(spec_l91Batch.j0 k s0_0 bt192.2 (t170 == 0) true bt179.1 bt181.1 bt183.1 (([(⟨a1,bt187.1,false,(([] : List Int)),true,(([bt192.1] : List Int))⟩ : S27)] : List (S27)))))) else (spec_l91Batch.j0 k s0_0 bt185.2 (t170 == 0) false bt179.1 bt181.1 bt183.1 t172)))))) else (spec_l91Batch.j0 k s0_0 t178 (t170 == 0) false 255 0 0 t172))=some (r1,r2,r3,r4,r5,r6,r7):=H
 have A5:=Aside0.mk A50
 clear A50
 have HC6:=Aside0.mk H
 clear H
 go_enter Try.func75,Try.ntmps75
 go_upto_if 15 with (first|((with_reducible refine gate_dst (N:=4) rfl ?_);refine box_event ?hg (N:=4) ?hd (cs:=#[.bool false,.bool false,.int .i64 0,.int .i64 0,.int .i64 0,.slice none 0 0]) (t:=54) ?hr ?_;(case hd=>rfl);(case hg=>rfl);(case hr=>first|(go_simp;done)|(go_simp;rfl));intro gb169 hg w7 hbox hb;have n0_:=Aside0.mk (IsS91.below (by repeat (first|(with_reducible first|exact HI0.out|apply IsS91.alloc|apply IsS91.drewN|apply IsS91.drew|apply IsS91.set_1)|exact HI0.out)) hb);have n1_:=Aside0.mk (KeepBut.trans (by repeat (first|(with_reducible first|exact HK.out|apply KeepBut.set_|apply keep_drewN|apply keep_drew|apply keep_alloc)|exact HK.out)) (KeepBut.of_below hb g none) (.inl rfl));have n2_:=Aside0.mk (below_step (by repeat (first|(with_reducible first|exact HB.out|apply below_alloc|apply pw_below_drewN|apply below_drew1|refine below_set ?_ (IsS91.ge HI0.out))|exact HB.out)) hb);have n3_:=Aside0.mk (hbox);have n4_:=Aside0.mk ((by rw [hg];exact (keep_size (w:=w) (g:=g) (row:=none) (by repeat (first|(with_reducible first|exact HK.out|apply KeepBut.set_|apply keep_drewN|apply keep_drew|apply keep_alloc)|exact HK.out))) : w.heap.size ≤ gb169));have n5_:=Aside0.mk ((Nat.le_trans HW0.out (by rw [hg];exact (keep_size (w:=w) (g:=g) (row:=none) (by repeat (first|(with_reducible first|exact HK.out|apply KeepBut.set_|apply keep_drewN|apply keep_drew|apply keep_alloc)|exact HK.out))) : w.heap.size ≤ gb169) : w0.heap.size ≤ gb169));have n6_:=Aside0.mk ((by rw [hg];exact Nat.ne_of_lt (IsS91.lt (show IsS91 w0 _ g s0_0 s0_1 from by repeat (first|(with_reducible first|exact HI0.out|apply IsS91.alloc|apply IsS91.drewN|apply IsS91.drew|apply IsS91.set_1)|exact HI0.out))) : g ≠ gb169));have n7_:=Aside0.mk ((by rw [hg];exact Nat.ne_of_gt (IsS91.lt (show IsS91 w0 _ g s0_0 s0_1 from by repeat (first|(with_reducible first|exact HI0.out|apply IsS91.alloc|apply IsS91.drewN|apply IsS91.drew|apply IsS91.set_1)|exact HI0.out))) : gb169 ≠ g));clear HI0;clear HK;clear HB;have HI0:=n0_;have HK:=n1_;have HB:=n2_;have BK169:=n3_;have GW169:=n4_;have GE169:=n5_;have NB0_169:=n6_;have NB169_0:=n7_;clear n0_ n1_ n2_ n3_ n4_ n5_ n6_ n7_;clear hb hbox hg)|((with_reducible refine gate_callee (f:=65) rfl ?_);refine goesL_ (some 7) rfl rfl Try.func65 (by kernel_rfl) rfl #[.pointer (some ⟨g,0,none⟩),.int .i64 2] rfl (by (try simp only [List.map_toArray,List.map_cons,List.map_nil]);first|done|rfl|(simp only [List.length_drop,List.length_take];rfl)) ?_;(with_reducible refine (spec_l6Rd_pick.calls k g s0_0 s0_1 2 t170 t171 w0 _ ?side1 ?side2 A3.out).mono ?_);(case side1=>repeat (first|(with_reducible first|exact HI0.out|apply IsS91.alloc|apply IsS91.drewN|apply IsS91.drew|apply IsS91.set_1|refine IsS91.far ?_ NB0_169.out _)|exact HI0.out));(case side2=>repeat (first|(with_reducible first|exact HB.out|apply below_alloc|apply pw_below_drewN|apply below_drew1|refine below_set ?_ (IsS91.ge HI0.out)|refine below_set ?_ GE169.out)|exact HB.out));rintro e w8 ⟨rfl,hi,hb,hk⟩;refine ⟨_,rfl,?_⟩;have n0_:=Aside0.mk (KeepBut.blk hk (g':=gb169) (o:=.cells #[.bool false,.bool false,.int .i64 0,.int .i64 0,.int .i64 0,.slice none 0 0] 54 (0,0)) (by (with_reducible repeat (first|refine blk_drewN ?_ _|refine blk_drew ?_|refine blk_alloc ?_ _));exact BK169.out) NB169_0.out (by simp));have n1_:=Aside0.mk (KeepBut.trans (by repeat (first|(with_reducible first|exact HK.out|apply KeepBut.set_|apply keep_drewN|apply keep_drew|apply keep_alloc|refine keep_far ?_ GW169.out _)|exact HK.out)) hk (.inl rfl));have n2_:=Aside0.mk (hb);have n3_:=Aside0.mk (hi);clear BK169;clear HK;clear HB;clear HI0;have BK169:=n0_;have HK:=n1_;have HB:=n2_;have HI0:=n3_;clear n0_ n1_ n2_ n3_;(try clear hb);(try clear hb2);(try clear hk);(try clear hi))|((with_reducible refine gate_callee (f:=90) rfl ?_);refine goesL_ (some 11) rfl rfl Try.func90 (by kernel_rfl) rfl #[.pointer (some ⟨g,0,none⟩),.int .i64 a1,.int .i64 4] rfl (by (try simp only [List.map_toArray,List.map_cons,List.map_nil]);first|done|rfl|(simp only [List.length_drop,List.length_take];rfl)) ?_;(with_reducible refine (spec_l91Records.calls k g s0_0 t171 a1 4 t172 t175 w0 _ ?side1 ?side2 A4.out).mono ?_);(case side1=>repeat (first|(with_reducible first|exact HI0.out|apply IsS91.alloc|apply IsS91.drewN|apply IsS91.drew|apply IsS91.set_1|refine IsS91.far ?_ NB0_169.out _)|exact HI0.out));(case side2=>repeat (first|(with_reducible first|exact HB.out|apply below_alloc|apply pw_below_drewN|apply below_drew1|refine below_set ?_ (IsS91.ge HI0.out)|refine below_set ?_ GE169.out)|exact HB.out));rintro e w9 ⟨v173,rfl,ho0,hi,hb,hk⟩;refine ⟨_,rfl,?_⟩;have n0_:=Aside0.mk (KeepBut.blk hk (g':=gb169) (o:=.cells #[.bool false,.bool false,.int .i64 0,.int .i64 0,.int .i64 0,.slice none 0 0] 54 (0,0)) (by (with_reducible repeat (first|refine blk_drewN ?_ _|refine blk_drew ?_|refine blk_alloc ?_ _));exact BK169.out) NB169_0.out (by simp));have n1_:=Aside0.mk (Kd.N_lower (Kd.N_mono (ok':=fun k_=>(w.heap.size ≤ k_)∧k_ ≠ gb169∧k_ ≠ g) (Kd.S_N (Kd.S_bound ho0)) (fun k_ hk_=>⟨(Nat.le_trans (keep_size (w:=w) (g:=g) (row:=none) (by repeat (first|(with_reducible first|exact HK.out|apply KeepBut.set_|apply keep_drewN|apply keep_drew|apply keep_alloc|refine keep_far ?_ GW169.out _)|exact HK.out))) hk_.2.1),(Kd.freshB (g:=gb169) (o:=.cells #[.bool false,.bool false,.int .i64 0,.int .i64 0,.int .i64 0,.slice none 0 0] 54 (0,0)) (by (with_reducible repeat (first|refine blk_drewN ?_ _|refine blk_drew ?_|refine blk_alloc ?_ _));exact BK169.out) k_ hk_.2.1),(IsS91.fresh (by repeat (first|(with_reducible first|exact HI0.out|apply IsS91.alloc|apply IsS91.drewN|apply IsS91.drew|apply IsS91.set_1|refine IsS91.far ?_ NB0_169.out _)|exact HI0.out)) k_ hk_.2.1)⟩)) (keep_size (w:=w) (g:=g) (row:=none) (by repeat (first|(with_reducible first|exact HK.out|apply KeepBut.set_|apply keep_drewN|apply keep_drew|apply keep_alloc|refine keep_far ?_ GW169.out _)|exact HK.out))));have n2_:=Aside0.mk (KeepBut.trans (by repeat (first|(with_reducible first|exact HK.out|apply KeepBut.set_|apply keep_drewN|apply keep_drew|apply keep_alloc|refine keep_far ?_ GW169.out _)|exact HK.out)) hk (.inl rfl));have n3_:=Aside0.mk (hb);have n4_:=Aside0.mk (hi);clear BK169;clear HK;clear HB;clear HI0;have BK169:=n0_;have HO174:=n1_;have HK:=n2_;have HB:=n3_;have HI0:=n4_;clear n0_ n1_ n2_ n3_ n4_;(try clear hb);(try clear hb2);(try clear hk);(try clear hi);(try clear ho0);obtain ⟨Ao10,co10,eo10⟩:=Kd.N_slice HO174.out;subst eo10)|((with_reducible refine gate_dst (N:=5) rfl ?_);refine box_event ?hg (N:=5) ?hd (cs:=#[.bool false,.bool false,.int .i64 0,.int .i64 0,.int .i64 0,.slice none 0 0]) (t:=54) ?hr ?_;(case hd=>rfl);(case hg=>rfl);(case hr=>first|(go_simp;done)|(go_simp;rfl));intro gb176 hg w11 hbox hb;have n0_:=Aside0.mk (Kd.N_below (Kd.N_elderB (by (with_reducible repeat (first|apply Kd.N_alloc|apply Kd.N_drewN|apply Kd.N_drew));exact HO174.out) gb176 (Nat.le_of_eq hg.symm)) hb);have n1_:=Aside0.mk (IsS91.below (by repeat (first|(with_reducible first|exact HI0.out|apply IsS91.alloc|apply IsS91.drewN|apply IsS91.drew|apply IsS91.set_1|refine IsS91.far ?_ NB0_169.out _)|exact HI0.out)) hb);have n2_:=Aside0.mk (blk_below (g:=gb169) (o:=.cells #[.bool false,.bool false,.int .i64 0,.int .i64 0,.int .i64 0,.slice none 0 0] 54 (0,0)) (by (with_reducible repeat (first|refine blk_drewN ?_ _|refine blk_drew ?_|refine blk_alloc ?_ _));exact BK169.out) hb);have n3_:=Aside0.mk (KeepBut.trans (by repeat (first|(with_reducible first|exact HK.out|apply KeepBut.set_|apply keep_drewN|apply keep_drew|apply keep_alloc|refine keep_far ?_ GW169.out _)|exact HK.out)) (KeepBut.of_below hb g none) (.inl rfl));have n4_:=Aside0.mk (below_step (by repeat (first|(with_reducible first|exact HB.out|apply below_alloc|apply pw_below_drewN|apply below_drew1|refine below_set ?_ (IsS91.ge HI0.out)|refine below_set ?_ GE169.out)|exact HB.out)) hb);have n5_:=Aside0.mk (hbox);have n6_:=Aside0.mk ((by rw [hg];exact (keep_size (w:=w) (g:=g) (row:=none) (by repeat (first|(with_reducible first|exact HK.out|apply KeepBut.set_|apply keep_drewN|apply keep_drew|apply keep_alloc|refine keep_far ?_ GW169.out _)|exact HK.out))) : w.heap.size ≤ gb176));have n7_:=Aside0.mk ((Nat.le_trans HW0.out (by rw [hg];exact (keep_size (w:=w) (g:=g) (row:=none) (by repeat (first|(with_reducible first|exact HK.out|apply KeepBut.set_|apply keep_drewN|apply keep_drew|apply keep_alloc|refine keep_far ?_ GW169.out _)|exact HK.out))) : w.heap.size ≤ gb176) : w0.heap.size ≤ gb176));have n8_:=Aside0.mk ((by rw [hg];exact Nat.ne_of_lt (blk_lt (g:=gb169) (o:=.cells #[.bool false,.bool false,.int .i64 0,.int .i64 0,.int .i64 0,.slice none 0 0] 54 (0,0)) (by (with_reducible repeat (first|refine blk_drewN ?_ _|refine blk_drew ?_|refine blk_alloc ?_ _));exact BK169.out)) : gb169 ≠ gb176));have n9_:=Aside0.mk ((by rw [hg];exact Nat.ne_of_gt (blk_lt (g:=gb169) (o:=.cells #[.bool false,.bool false,.int .i64 0,.int .i64 0,.int .i64 0,.slice none 0 0] 54 (0,0)) (by (with_reducible repeat (first|refine blk_drewN ?_ _|refine blk_drew ?_|refine blk_alloc ?_ _));exact BK169.out)) : gb176 ≠ gb169));have n10_:=Aside0.mk ((by rw [hg];exact Nat.ne_of_lt (IsS91.lt (show IsS91 w0 _ g s0_0 t175 from by repeat (first|(with_reducible first|exact HI0.out|apply IsS91.alloc|apply IsS91.drewN|apply IsS91.drew|apply IsS91.set_1|refine IsS91.far ?_ NB0_169.out _)|exact HI0.out))) : g ≠ gb176));have n11_:=Aside0.mk ((by rw [hg];exact Nat.ne_of_gt (IsS91.lt (show IsS91 w0 _ g s0_0 t175 from by repeat (first|(with_reducible first|exact HI0.out|apply IsS91.alloc|apply IsS91.drewN|apply IsS91.drew|apply IsS91.set_1|refine IsS91.far ?_ NB0_169.out _)|exact HI0.out))) : gb176 ≠ g));clear HO174;clear HI0;clear BK169;clear HK;clear HB;have HO174:=n0_;have HI0:=n1_;have BK169:=n2_;have HK:=n3_;have HB:=n4_;have BK176:=n5_;have GW176:=n6_;have GE176:=n7_;have NB169_176:=n8_;have NB176_169:=n9_;have NB0_176:=n10_;have NB176_0:=n11_;clear n0_ n1_ n2_ n3_ n4_ n5_ n6_ n7_ n8_ n9_ n10_ n11_;clear hb hbox hg;have hnb12:=NB176_169.out;have hnc12:=NB169_176.out;have hnb13:=NB176_0.out;have hnc13:=NB0_176.out;have hcz14_0 : w11.cell? ⟨gb176,0,none⟩ = some (.bool false):=(blk_cell BK176.out 0).trans rfl;have hcz14_1 : w11.cell? ⟨gb176,1,none⟩ = some (.bool false):=(blk_cell BK176.out 1).trans rfl;have hcz14_2 : w11.cell? ⟨gb176,2,none⟩ = some (.int .i64 0):=(blk_cell BK176.out 2).trans rfl;have hcz14_3 : w11.cell? ⟨gb176,3,none⟩ = some (.int .i64 0):=(blk_cell BK176.out 3).trans rfl;have hcz14_4 : w11.cell? ⟨gb176,4,none⟩ = some (.int .i64 0):=(blk_cell BK176.out 4).trans rfl;have hcz14_5 : w11.cell? ⟨gb176,5,none⟩ = some (.slice none 0 0):=(blk_cell BK176.out 5).trans rfl;have hfz14_0:=blk_frozen BK176.out 0;have hfz14_1:=blk_frozen BK176.out 1;have hfz14_2:=blk_frozen BK176.out 2;have hfz14_3:=blk_frozen BK176.out 3;have hfz14_4:=blk_frozen BK176.out 4;have hfz14_5:=blk_frozen BK176.out 5)|((with_reducible refine gate_callee (f:=65) rfl ?_);refine goesL_ (some 14) rfl rfl Try.func65 (by kernel_rfl) rfl #[.pointer (some ⟨g,0,none⟩),.int .i64 3] rfl (by (try simp only [List.map_toArray,List.map_cons,List.map_nil]);first|done|rfl|(simp only [List.length_drop,List.length_take];rfl)) ?_;(with_reducible refine (spec_l6Rd_pick.calls k g s0_0 t175 3 t177 t178 w0 _ ?side1 ?side2 A5.out).mono ?_);(case side1=>repeat (first|(with_reducible first|exact HI0.out|apply IsS91.alloc|apply IsS91.drewN|apply IsS91.drew|apply IsS91.set_1|refine IsS91.far ?_ NB0_169.out _|refine IsS91.far ?_ NB0_176.out _)|exact HI0.out));(case side2=>repeat (first|(with_reducible first|exact HB.out|apply below_alloc|apply pw_below_drewN|apply below_drew1|refine below_set ?_ (IsS91.ge HI0.out)|refine below_set ?_ GE169.out|refine below_set ?_ GE176.out)|exact HB.out));rintro e w15 ⟨rfl,hi,hb,hk⟩;refine ⟨_,rfl,?_⟩;have n0_:=Aside0.mk (KeepBut.blk hk (g':=gb169) (o:=.cells #[.bool false,.bool false,.int .i64 0,.int .i64 0,.int .i64 0,.slice none 0 0] 54 (0,0)) (by (with_reducible repeat (first|refine blk_drewN ?_ _|refine blk_drew ?_|refine blk_alloc ?_ _));refine blk_far ?_ NB169_176.out _;(with_reducible repeat (first|refine blk_drewN ?_ _|refine blk_drew ?_|refine blk_alloc ?_ _));refine blk_far ?_ NB169_176.out _;(with_reducible repeat (first|refine blk_drewN ?_ _|refine blk_drew ?_|refine blk_alloc ?_ _));refine blk_far ?_ NB169_176.out _;(with_reducible repeat (first|refine blk_drewN ?_ _|refine blk_drew ?_|refine blk_alloc ?_ _));refine blk_far ?_ NB169_176.out _;(with_reducible repeat (first|refine blk_drewN ?_ _|refine blk_drew ?_|refine blk_alloc ?_ _));refine blk_far ?_ NB169_176.out _;(with_reducible repeat (first|refine blk_drewN ?_ _|refine blk_drew ?_|refine blk_alloc ?_ _));refine blk_far ?_ NB169_176.out _;(with_reducible repeat (first|refine blk_drewN ?_ _|refine blk_drew ?_|refine blk_alloc ?_ _));exact BK169.out) NB169_0.out (by simp));have n1_:=Aside0.mk (Kd.N_mono (Kd.N_keep (Kd.N_mono (ok:=fun k_=>((((w.heap.size ≤ k_))∧(k_ ≠ gb169∧k_ ≠ g))∧k_ ≠ gb176)) (by (with_reducible repeat (first|apply Kd.N_alloc|apply Kd.N_drewN|apply Kd.N_drew));exact (Kd.N_mono (Kd.N_far (p:=⟨gb176,5,none⟩) (Kd.N_far (p:=⟨gb176,4,none⟩) (Kd.N_far (p:=⟨gb176,3,none⟩) (Kd.N_far (p:=⟨gb176,2,none⟩) (Kd.N_far (p:=⟨gb176,1,none⟩) (Kd.N_far (p:=⟨gb176,0,none⟩) (Kd.N_mono HO174.out (fun k_ hk=>(⟨hk,hk.2⟩ : _∧k_ ≠ gb176))) (fun _ hk=>hk.2) (.bool (t170 == 0))) (fun _ hk=>hk.2) (.bool false)) (fun _ hk=>hk.2) (.int .i64 255)) (fun _ hk=>hk.2) (.int .i64 0)) (fun _ hk=>hk.2) (.int .i64 0)) (fun _ hk=>hk.2) (.slice Ao10 t172.length co10)) (fun _ h_=>h_.1))) (fun k_ hk_=>(⟨hk_,hk_.1.2.2⟩ : _∧k_ ≠ g))) hk (fun _ h=>h.2)) (fun _ h=>h.1));have n2_:=Aside0.mk (KeepBut.blk hk (g':=gb176) (o:=.cells #[.bool (t170 == 0),.bool false,.int .i64 255,.int .i64 0,.int .i64 0,.slice Ao10 t172.length co10] 54 (0,0)) (by (with_reducible repeat (first|refine blk_drewN ?_ _|refine blk_drew ?_|refine blk_alloc ?_ _));refine blk_put (cs:=#[.bool (t170 == 0),.bool false,.int .i64 255,.int .i64 0,.int .i64 0,.slice none 0 0]) ?_ 5 _ rfl;(with_reducible repeat (first|refine blk_drewN ?_ _|refine blk_drew ?_|refine blk_alloc ?_ _));refine blk_put (cs:=#[.bool (t170 == 0),.bool false,.int .i64 255,.int .i64 0,.int .i64 0,.slice none 0 0]) ?_ 4 _ rfl;(with_reducible repeat (first|refine blk_drewN ?_ _|refine blk_drew ?_|refine blk_alloc ?_ _));refine blk_put (cs:=#[.bool (t170 == 0),.bool false,.int .i64 255,.int .i64 0,.int .i64 0,.slice none 0 0]) ?_ 3 _ rfl;(with_reducible repeat (first|refine blk_drewN ?_ _|refine blk_drew ?_|refine blk_alloc ?_ _));refine blk_put (cs:=#[.bool (t170 == 0),.bool false,.int .i64 0,.int .i64 0,.int .i64 0,.slice none 0 0]) ?_ 2 _ rfl;(with_reducible repeat (first|refine blk_drewN ?_ _|refine blk_drew ?_|refine blk_alloc ?_ _));refine blk_put (cs:=#[.bool (t170 == 0),.bool false,.int .i64 0,.int .i64 0,.int .i64 0,.slice none 0 0]) ?_ 1 _ rfl;(with_reducible repeat (first|refine blk_drewN ?_ _|refine blk_drew ?_|refine blk_alloc ?_ _));refine blk_put (cs:=#[.bool false,.bool false,.int .i64 0,.int .i64 0,.int .i64 0,.slice none 0 0]) ?_ 0 _ rfl;(with_reducible repeat (first|refine blk_drewN ?_ _|refine blk_drew ?_|refine blk_alloc ?_ _));exact BK176.out) NB176_0.out (by simp));have n3_:=Aside0.mk (KeepBut.trans (by repeat (first|(with_reducible first|exact HK.out|apply KeepBut.set_|apply keep_drewN|apply keep_drew|apply keep_alloc|refine keep_far ?_ GW169.out _|refine keep_far ?_ GW176.out _)|exact HK.out)) hk (.inl rfl));have n4_:=Aside0.mk (hb);have n5_:=Aside0.mk (hi);clear BK169;clear HO174;clear BK176;clear HK;clear HB;clear HI0;have BK169:=n0_;have HO174:=n1_;have BK176:=n2_;have HK:=n3_;have HB:=n4_;have HI0:=n5_;clear n0_ n1_ n2_ n3_ n4_ n5_;(try clear hb);(try clear hb2);(try clear hk);(try clear hi)))
 (try simp only [Act.put,List.setIfInBounds_toArray,List.set_cons_zero,List.set_cons_succ])
 go_cut [] (fun wc=>∃ (kq : Nat) (x1001_5 : Int) (x177001_5 : Bool) (x177002_5 : Int) (x177003_5 : Int) (x177004_5 : Int) (x177005_5 : List (S27)) (u177005 : Value),Aside0 (spec_l91Batch.j0 kq s0_0 x1001_5 (t170 == 0) x177001_5 x177002_5 x177003_5 x177004_5 x177005_5=some (r1,r2,r3,r4,r5,r6,r7))∧Aside0 (kq ≤ k)∧Aside0 (Kd.N k27 27 wc w.heap.size (fun k_=>(w.heap.size ≤ k_)∧k_ ≠ gb169∧k_ ≠ gb176∧k_ ≠ g) u177005 x177005_5)∧Aside0 (wc.heap[gb169]? = some (.cells #[.bool false,.bool false,.int .i64 0,.int .i64 0,.int .i64 0,(.slice none 0 0)] 54 (0,0)))∧Aside0 (wc.heap[gb176]? = some (.cells #[.bool (t170 == 0),.bool x177001_5,.int .i64 x177002_5,.int .i64 x177003_5,.int .i64 x177004_5,u177005] 54 (0,0)))∧Aside0 (IsS91 w0 wc g s0_0 x1001_5)∧Aside0 (KeepBut w wc g none)∧Aside0 (Below w0.heap.size w0 wc))
 case first =>
  have H:=HC6.out
  clear HC6
  by_cases c16 : t177=0
  ·rw [if_pos c16] at H
   have c16b0 : (t177 == 0)=true:=beq_iff_eq.mpr c16
   have c16b1 : (t177 != 0)=false:=bne_eq_false_iff_eq.mpr c16
   clear c16
   (first|rw [c16b0]|(simp only [i64_w,i32_w];rw [c16b0])|skip)
   replace H:=Option.bind_eq_some_iff.mp H
   obtain ⟨⟨t179,t180⟩,A170,H⟩:=H
   replace H : ((spec_l6Rd_pick.f k s0_0 t180 3).bind fun bt181=>((spec_l6Rd_pick.f k s0_0 bt181.2 5).bind fun bt183=>((spec_l6Rd_pick.f k s0_0 bt183.2 3).bind fun bt185=>(if bt185.1=0 then ((spec_l6Rd_pick.f k s0_0 bt185.2 200).bind fun bt187=>((spec_l6Rd_pick.f k s0_0 bt187.2 2).bind fun bt192=>(spec_l91Batch.j0 k s0_0 bt192.2 (t170 == 0) true t179 bt181.1 bt183.1 (([(⟨a1,bt187.1,false,(([] : List Int)),true,(([bt192.1] : List Int))⟩ : S27)] : List (S27)))))) else (spec_l91Batch.j0 k s0_0 bt185.2 (t170 == 0) false t179 bt181.1 bt183.1 t172)))))=some (r1,r2,r3,r4,r5,r6,r7):=H
   have A17:=Aside0.mk A170
   clear A170
   replace H:=Option.bind_eq_some_iff.mp H
   obtain ⟨⟨t181,t182⟩,A180,H⟩:=H
   replace H : ((spec_l6Rd_pick.f k s0_0 t182 5).bind fun bt183=>((spec_l6Rd_pick.f k s0_0 bt183.2 3).bind fun bt185=>(if bt185.1=0 then ((spec_l6Rd_pick.f k s0_0 bt185.2 200).bind fun bt187=>((spec_l6Rd_pick.f k s0_0 bt187.2 2).bind fun bt192=>(spec_l91Batch.j0 k s0_0 bt192.2 (t170 == 0) true t179 t181 bt183.1 (([(⟨a1,bt187.1,false,(([] : List Int)),true,(([bt192.1] : List Int))⟩ : S27)] : List (S27)))))) else (spec_l91Batch.j0 k s0_0 bt185.2 (t170 == 0) false t179 t181 bt183.1 t172))))=some (r1,r2,r3,r4,r5,r6,r7):=H
   have A18:=Aside0.mk A180
   clear A180
   replace H:=Option.bind_eq_some_iff.mp H
   obtain ⟨⟨t183,t184⟩,A190,H⟩:=H
   replace H : ((spec_l6Rd_pick.f k s0_0 t184 3).bind fun bt185=>(if bt185.1=0 then ((spec_l6Rd_pick.f k s0_0 bt185.2 200).bind fun bt187=>((spec_l6Rd_pick.f k s0_0 bt187.2 2).bind fun bt192=>(spec_l91Batch.j0 k s0_0 bt192.2 (t170 == 0) true t179 t181 t183 (([(⟨a1,bt187.1,false,(([] : List Int)),true,(([bt192.1] : List Int))⟩ : S27)] : List (S27)))))) else (spec_l91Batch.j0 k s0_0 bt185.2 (t170 == 0) false t179 t181 t183 t172)))=some (r1,r2,r3,r4,r5,r6,r7):=H
   have A19:=Aside0.mk A190
   clear A190
   replace H:=Option.bind_eq_some_iff.mp H
   obtain ⟨⟨t185,t186⟩,A200,H⟩:=H
   replace H : (if t185=0 then ((spec_l6Rd_pick.f k s0_0 t186 200).bind fun bt187=>((spec_l6Rd_pick.f k s0_0 bt187.2 2).bind fun bt192=>(spec_l91Batch.j0 k s0_0 bt192.2 (t170 == 0) true t179 t181 t183 (([(⟨a1,bt187.1,false,(([] : List Int)),true,(([bt192.1] : List Int))⟩ : S27)] : List (S27)))))) else (spec_l91Batch.j0 k s0_0 t186 (t170 == 0) false t179 t181 t183 t172))=some (r1,r2,r3,r4,r5,r6,r7):=H
   have A20:=Aside0.mk A200
   clear A200
   by_cases c21 : t185=0
   ·rw [if_pos c21] at H
    have c21b0 : (t185 == 0)=true:=beq_iff_eq.mpr c21
    have c21b1 : (t185 != 0)=false:=bne_eq_false_iff_eq.mpr c21
    clear c21
    replace H:=Option.bind_eq_some_iff.mp H
    obtain ⟨⟨t187,t188⟩,A220,H⟩:=H
    replace H : ((spec_l6Rd_pick.f k s0_0 t188 2).bind fun bt192=>(spec_l91Batch.j0 k s0_0 bt192.2 (t170 == 0) true t179 t181 t183 (([(⟨a1,t187,false,(([] : List Int)),true,(([bt192.1] : List Int))⟩ : S27)] : List (S27)))))=some (r1,r2,r3,r4,r5,r6,r7):=H
    have A22:=Aside0.mk A220
    clear A220
    obtain ⟨y189,hy189⟩ : ∃ y_ : List Int,y_=(([] : List Int)):=⟨_,rfl⟩
    replace H : ((spec_l6Rd_pick.f k s0_0 t188 2).bind fun bt192=>(spec_l91Batch.j0 k s0_0 bt192.2 (t170 == 0) true t179 t181 t183 (([(⟨a1,t187,false,y189,true,(([bt192.1] : List Int))⟩ : S27)] : List (S27)))))=some (r1,r2,r3,r4,r5,r6,r7):=by first|(rw [hy189];with_reducible exact H)|(have H2_:=(Option.bind_some _ _).symm.trans H;rw [hy189];with_reducible exact H2_)|(have H2_:=(Option.bind_some _ _).symm.trans H;with_reducible exact H2_)|with_reducible exact H|(rw [hy189];exact H)|exact H
    have Ny189:=Aside0.mk hy189
    clear hy189
    replace H:=Option.bind_eq_some_iff.mp H
    obtain ⟨⟨t192,t193⟩,A230,H⟩:=H
    replace H : (spec_l91Batch.j0 k s0_0 t193 (t170 == 0) true t179 t181 t183 (([(⟨a1,t187,false,y189,true,(([t192] : List Int))⟩ : S27)] : List (S27))))=some (r1,r2,r3,r4,r5,r6,r7):=H
    have A23:=Aside0.mk A230
    clear A230
    obtain ⟨y194,hy194⟩ : ∃ y_ : List Int,y_=(([t192] : List Int)):=⟨_,rfl⟩
    replace H : (spec_l91Batch.j0 k s0_0 t193 (t170 == 0) true t179 t181 t183 (([(⟨a1,t187,false,y189,true,y194⟩ : S27)] : List (S27))))=some (r1,r2,r3,r4,r5,r6,r7):=by first|(rw [hy194];with_reducible exact H)|(have H2_:=(Option.bind_some _ _).symm.trans H;rw [hy194];with_reducible exact H2_)|(have H2_:=(Option.bind_some _ _).symm.trans H;with_reducible exact H2_)|with_reducible exact H|(rw [hy194];exact H)|exact H
    have Ny194:=Aside0.mk hy194
    clear hy194
    obtain ⟨y197,hy197⟩ : ∃ y_ : List (S27),y_=(([(⟨a1,t187,false,y189,true,y194⟩ : S27)] : List (S27))):=⟨_,rfl⟩
    replace H : (spec_l91Batch.j0 k s0_0 t193 (t170 == 0) true t179 t181 t183 y197)=some (r1,r2,r3,r4,r5,r6,r7):=by first|(rw [hy197];with_reducible exact H)|(have H2_:=(Option.bind_some _ _).symm.trans H;rw [hy197];with_reducible exact H2_)|(have H2_:=(Option.bind_some _ _).symm.trans H;with_reducible exact H2_)|with_reducible exact H|(rw [hy197];exact H)|exact H
    have Ny197:=Aside0.mk hy197
    clear hy197
    have H':=Aside0.mk H
    clear H
    go_wp2_with (first|((with_reducible refine gate_callee (f:=65) rfl ?_);refine goesL_ (some 17) rfl rfl Try.func65 (by kernel_rfl) rfl #[.pointer (some ⟨g,0,none⟩),.int .i64 3] rfl (by (try simp only [List.map_toArray,List.map_cons,List.map_nil]);first|done|rfl|(simp only [List.length_drop,List.length_take];rfl)) ?_;(with_reducible refine (spec_l6Rd_pick.calls k g s0_0 t178 3 t179 t180 w0 _ ?side1 ?side2 A17.out).mono ?_);(case side1=>repeat (first|(with_reducible first|exact HI0.out|apply IsS91.alloc|apply IsS91.drewN|apply IsS91.drew|apply IsS91.set_1|refine IsS91.far ?_ NB0_169.out _|refine IsS91.far ?_ NB0_176.out _)|exact HI0.out));(case side2=>repeat (first|(with_reducible first|exact HB.out|apply below_alloc|apply pw_below_drewN|apply below_drew1|refine below_set ?_ (IsS91.ge HI0.out)|refine below_set ?_ GE169.out|refine below_set ?_ GE176.out)|exact HB.out));rintro e w24 ⟨rfl,hi,hb,hk⟩;refine ⟨_,rfl,?_⟩;have n0_:=Aside0.mk (KeepBut.blk hk (g':=gb169) (o:=.cells #[.bool false,.bool false,.int .i64 0,.int .i64 0,.int .i64 0,.slice none 0 0] 54 (0,0)) (by (with_reducible repeat (first|refine blk_drewN ?_ _|refine blk_drew ?_|refine blk_alloc ?_ _));exact BK169.out) NB169_0.out (by simp));have n1_:=Aside0.mk (Kd.N_mono (Kd.N_keep (Kd.N_mono (ok:=fun k_=>((((w.heap.size ≤ k_))∧(k_ ≠ gb169∧k_ ≠ g))∧k_ ≠ gb176)) (by (with_reducible repeat (first|apply Kd.N_alloc|apply Kd.N_drewN|apply Kd.N_drew));exact HO174.out) (fun k_ hk_=>(⟨hk_,hk_.1.2.2⟩ : _∧k_ ≠ g))) hk (fun _ h=>h.2)) (fun _ h=>h.1));have n2_:=Aside0.mk (KeepBut.blk hk (g':=gb176) (o:=.cells #[.bool (t170 == 0),.bool false,.int .i64 255,.int .i64 0,.int .i64 0,.slice Ao10 t172.length co10] 54 (0,0)) (by (with_reducible repeat (first|refine blk_drewN ?_ _|refine blk_drew ?_|refine blk_alloc ?_ _));exact BK176.out) NB176_0.out (by simp));have n3_:=Aside0.mk (KeepBut.trans (by repeat (first|(with_reducible first|exact HK.out|apply KeepBut.set_|apply keep_drewN|apply keep_drew|apply keep_alloc|refine keep_far ?_ GW169.out _|refine keep_far ?_ GW176.out _)|exact HK.out)) hk (.inl rfl));have n4_:=Aside0.mk (hb);have n5_:=Aside0.mk (hi);clear BK169;clear HO174;clear BK176;clear HK;clear HB;clear HI0;have BK169:=n0_;have HO174:=n1_;have BK176:=n2_;have HK:=n3_;have HB:=n4_;have HI0:=n5_;clear n0_ n1_ n2_ n3_ n4_ n5_;(try clear hb);(try clear hb2);(try clear hk);(try clear hi);have hnb25:=NB176_169.out;have hnc25:=NB169_176.out;have hnb26:=NB176_0.out;have hnc26:=NB0_176.out;have hcz27_0 : w24.cell? ⟨gb176,0,none⟩ = some (.bool (t170 == 0)):=(blk_cell BK176.out 0).trans rfl;have hcz27_1 : w24.cell? ⟨gb176,1,none⟩ = some (.bool false):=(blk_cell BK176.out 1).trans rfl;have hcz27_2 : w24.cell? ⟨gb176,2,none⟩ = some (.int .i64 255):=(blk_cell BK176.out 2).trans rfl;have hcz27_3 : w24.cell? ⟨gb176,3,none⟩ = some (.int .i64 0):=(blk_cell BK176.out 3).trans rfl;have hcz27_4 : w24.cell? ⟨gb176,4,none⟩ = some (.int .i64 0):=(blk_cell BK176.out 4).trans rfl;have hcz27_5 : w24.cell? ⟨gb176,5,none⟩ = some (.slice Ao10 t172.length co10):=(blk_cell BK176.out 5).trans rfl;have hfz27_0:=blk_frozen BK176.out 0;have hfz27_1:=blk_frozen BK176.out 1;have hfz27_2:=blk_frozen BK176.out 2;have hfz27_3:=blk_frozen BK176.out 3;have hfz27_4:=blk_frozen BK176.out 4;have hfz27_5:=blk_frozen BK176.out 5)|((with_reducible refine gate_callee (f:=65) rfl ?_);refine goesL_ (some 20) rfl rfl Try.func65 (by kernel_rfl) rfl #[.pointer (some ⟨g,0,none⟩),.int .i64 3] rfl (by (try simp only [List.map_toArray,List.map_cons,List.map_nil]);first|done|rfl|(simp only [List.length_drop,List.length_take];rfl)) ?_;(with_reducible refine (spec_l6Rd_pick.calls k g s0_0 t180 3 t181 t182 w0 _ ?side1 ?side2 A18.out).mono ?_);(case side1=>repeat (first|(with_reducible first|exact HI0.out|apply IsS91.alloc|apply IsS91.drewN|apply IsS91.drew|apply IsS91.set_1|refine IsS91.far ?_ NB0_169.out _|refine IsS91.far ?_ NB0_176.out _)|exact HI0.out));(case side2=>repeat (first|(with_reducible first|exact HB.out|apply below_alloc|apply pw_below_drewN|apply below_drew1|refine below_set ?_ (IsS91.ge HI0.out)|refine below_set ?_ GE169.out|refine below_set ?_ GE176.out)|exact HB.out));rintro e w28 ⟨rfl,hi,hb,hk⟩;refine ⟨_,rfl,?_⟩;have n0_:=Aside0.mk (KeepBut.blk hk (g':=gb169) (o:=.cells #[.bool false,.bool false,.int .i64 0,.int .i64 0,.int .i64 0,.slice none 0 0] 54 (0,0)) (by (with_reducible repeat (first|refine blk_drewN ?_ _|refine blk_drew ?_|refine blk_alloc ?_ _));refine blk_far ?_ NB169_176.out _;(with_reducible repeat (first|refine blk_drewN ?_ _|refine blk_drew ?_|refine blk_alloc ?_ _));exact BK169.out) NB169_0.out (by simp));have n1_:=Aside0.mk (Kd.N_mono (Kd.N_keep (Kd.N_mono (ok:=fun k_=>((((w.heap.size ≤ k_))∧(k_ ≠ gb169∧k_ ≠ g))∧k_ ≠ gb176)) (by (with_reducible repeat (first|apply Kd.N_alloc|apply Kd.N_drewN|apply Kd.N_drew));exact (Kd.N_mono (Kd.N_far (p:=⟨gb176,2,none⟩) (Kd.N_mono HO174.out (fun k_ hk=>(⟨hk,hk.2⟩ : _∧k_ ≠ gb176))) (fun _ hk=>hk.2) (.int .i64 t179)) (fun _ h_=>h_.1))) (fun k_ hk_=>(⟨hk_,hk_.1.2.2⟩ : _∧k_ ≠ g))) hk (fun _ h=>h.2)) (fun _ h=>h.1));have n2_:=Aside0.mk (KeepBut.blk hk (g':=gb176) (o:=.cells #[.bool (t170 == 0),.bool false,.int .i64 t179,.int .i64 0,.int .i64 0,.slice Ao10 t172.length co10] 54 (0,0)) (by (with_reducible repeat (first|refine blk_drewN ?_ _|refine blk_drew ?_|refine blk_alloc ?_ _));refine blk_put (cs:=#[.bool (t170 == 0),.bool false,.int .i64 255,.int .i64 0,.int .i64 0,.slice Ao10 t172.length co10]) ?_ 2 _ rfl;(with_reducible repeat (first|refine blk_drewN ?_ _|refine blk_drew ?_|refine blk_alloc ?_ _));exact BK176.out) NB176_0.out (by simp));have n3_:=Aside0.mk (KeepBut.trans (by repeat (first|(with_reducible first|exact HK.out|apply KeepBut.set_|apply keep_drewN|apply keep_drew|apply keep_alloc|refine keep_far ?_ GW169.out _|refine keep_far ?_ GW176.out _)|exact HK.out)) hk (.inl rfl));have n4_:=Aside0.mk (hb);have n5_:=Aside0.mk (hi);clear BK169;clear HO174;clear BK176;clear HK;clear HB;clear HI0;have BK169:=n0_;have HO174:=n1_;have BK176:=n2_;have HK:=n3_;have HB:=n4_;have HI0:=n5_;clear n0_ n1_ n2_ n3_ n4_ n5_;(try clear hb);(try clear hb2);(try clear hk);(try clear hi);have hcz29_0 : w28.cell? ⟨gb176,0,none⟩ = some (.bool (t170 == 0)):=(blk_cell BK176.out 0).trans rfl;have hcz29_1 : w28.cell? ⟨gb176,1,none⟩ = some (.bool false):=(blk_cell BK176.out 1).trans rfl;have hcz29_2 : w28.cell? ⟨gb176,2,none⟩ = some (.int .i64 t179):=(blk_cell BK176.out 2).trans rfl;have hcz29_3 : w28.cell? ⟨gb176,3,none⟩ = some (.int .i64 0):=(blk_cell BK176.out 3).trans rfl;have hcz29_4 : w28.cell? ⟨gb176,4,none⟩ = some (.int .i64 0):=(blk_cell BK176.out 4).trans rfl;have hcz29_5 : w28.cell? ⟨gb176,5,none⟩ = some (.slice Ao10 t172.length co10):=(blk_cell BK176.out 5).trans rfl;have hfz29_0:=blk_frozen BK176.out 0;have hfz29_1:=blk_frozen BK176.out 1;have hfz29_2:=blk_frozen BK176.out 2;have hfz29_3:=blk_frozen BK176.out 3;have hfz29_4:=blk_frozen BK176.out 4;have hfz29_5:=blk_frozen BK176.out 5)|((with_reducible refine gate_callee (f:=65) rfl ?_);refine goesL_ (some 23) rfl rfl Try.func65 (by kernel_rfl) rfl #[.pointer (some ⟨g,0,none⟩),.int .i64 5] rfl (by (try simp only [List.map_toArray,List.map_cons,List.map_nil]);first|done|rfl|(simp only [List.length_drop,List.length_take];rfl)) ?_;(with_reducible refine (spec_l6Rd_pick.calls k g s0_0 t182 5 t183 t184 w0 _ ?side1 ?side2 A19.out).mono ?_);(case side1=>repeat (first|(with_reducible first|exact HI0.out|apply IsS91.alloc|apply IsS91.drewN|apply IsS91.drew|apply IsS91.set_1|refine IsS91.far ?_ NB0_169.out _|refine IsS91.far ?_ NB0_176.out _)|exact HI0.out));(case side2=>repeat (first|(with_reducible first|exact HB.out|apply below_alloc|apply pw_below_drewN|apply below_drew1|refine below_set ?_ (IsS91.ge HI0.out)|refine below_set ?_ GE169.out|refine below_set ?_ GE176.out)|exact HB.out));rintro e w30 ⟨rfl,hi,hb,hk⟩;refine ⟨_,rfl,?_⟩;have n0_:=Aside0.mk (KeepBut.blk hk (g':=gb169) (o:=.cells #[.bool false,.bool false,.int .i64 0,.int .i64 0,.int .i64 0,.slice none 0 0] 54 (0,0)) (by (with_reducible repeat (first|refine blk_drewN ?_ _|refine blk_drew ?_|refine blk_alloc ?_ _));refine blk_far ?_ NB169_176.out _;(with_reducible repeat (first|refine blk_drewN ?_ _|refine blk_drew ?_|refine blk_alloc ?_ _));exact BK169.out) NB169_0.out (by simp));have n1_:=Aside0.mk (Kd.N_mono (Kd.N_keep (Kd.N_mono (ok:=fun k_=>((((w.heap.size ≤ k_))∧(k_ ≠ gb169∧k_ ≠ g))∧k_ ≠ gb176)) (by (with_reducible repeat (first|apply Kd.N_alloc|apply Kd.N_drewN|apply Kd.N_drew));exact (Kd.N_mono (Kd.N_far (p:=⟨gb176,3,none⟩) (Kd.N_mono HO174.out (fun k_ hk=>(⟨hk,hk.2⟩ : _∧k_ ≠ gb176))) (fun _ hk=>hk.2) (.int .i64 t181)) (fun _ h_=>h_.1))) (fun k_ hk_=>(⟨hk_,hk_.1.2.2⟩ : _∧k_ ≠ g))) hk (fun _ h=>h.2)) (fun _ h=>h.1));have n2_:=Aside0.mk (KeepBut.blk hk (g':=gb176) (o:=.cells #[.bool (t170 == 0),.bool false,.int .i64 t179,.int .i64 t181,.int .i64 0,.slice Ao10 t172.length co10] 54 (0,0)) (by (with_reducible repeat (first|refine blk_drewN ?_ _|refine blk_drew ?_|refine blk_alloc ?_ _));refine blk_put (cs:=#[.bool (t170 == 0),.bool false,.int .i64 t179,.int .i64 0,.int .i64 0,.slice Ao10 t172.length co10]) ?_ 3 _ rfl;(with_reducible repeat (first|refine blk_drewN ?_ _|refine blk_drew ?_|refine blk_alloc ?_ _));exact BK176.out) NB176_0.out (by simp));have n3_:=Aside0.mk (KeepBut.trans (by repeat (first|(with_reducible first|exact HK.out|apply KeepBut.set_|apply keep_drewN|apply keep_drew|apply keep_alloc|refine keep_far ?_ GW169.out _|refine keep_far ?_ GW176.out _)|exact HK.out)) hk (.inl rfl));have n4_:=Aside0.mk (hb);have n5_:=Aside0.mk (hi);clear BK169;clear HO174;clear BK176;clear HK;clear HB;clear HI0;have BK169:=n0_;have HO174:=n1_;have BK176:=n2_;have HK:=n3_;have HB:=n4_;have HI0:=n5_;clear n0_ n1_ n2_ n3_ n4_ n5_;(try clear hb);(try clear hb2);(try clear hk);(try clear hi);have hcz31_0 : w30.cell? ⟨gb176,0,none⟩ = some (.bool (t170 == 0)):=(blk_cell BK176.out 0).trans rfl;have hcz31_1 : w30.cell? ⟨gb176,1,none⟩ = some (.bool false):=(blk_cell BK176.out 1).trans rfl;have hcz31_2 : w30.cell? ⟨gb176,2,none⟩ = some (.int .i64 t179):=(blk_cell BK176.out 2).trans rfl;have hcz31_3 : w30.cell? ⟨gb176,3,none⟩ = some (.int .i64 t181):=(blk_cell BK176.out 3).trans rfl;have hcz31_4 : w30.cell? ⟨gb176,4,none⟩ = some (.int .i64 0):=(blk_cell BK176.out 4).trans rfl;have hcz31_5 : w30.cell? ⟨gb176,5,none⟩ = some (.slice Ao10 t172.length co10):=(blk_cell BK176.out 5).trans rfl;have hfz31_0:=blk_frozen BK176.out 0;have hfz31_1:=blk_frozen BK176.out 1;have hfz31_2:=blk_frozen BK176.out 2;have hfz31_3:=blk_frozen BK176.out 3;have hfz31_4:=blk_frozen BK176.out 4;have hfz31_5:=blk_frozen BK176.out 5)|((with_reducible refine gate_callee (f:=65) rfl ?_);refine goesL_ (some 26) rfl rfl Try.func65 (by kernel_rfl) rfl #[.pointer (some ⟨g,0,none⟩),.int .i64 3] rfl (by (try simp only [List.map_toArray,List.map_cons,List.map_nil]);first|done|rfl|(simp only [List.length_drop,List.length_take];rfl)) ?_;(with_reducible refine (spec_l6Rd_pick.calls k g s0_0 t184 3 t185 t186 w0 _ ?side1 ?side2 A20.out).mono ?_);(case side1=>repeat (first|(with_reducible first|exact HI0.out|apply IsS91.alloc|apply IsS91.drewN|apply IsS91.drew|apply IsS91.set_1|refine IsS91.far ?_ NB0_169.out _|refine IsS91.far ?_ NB0_176.out _)|exact HI0.out));(case side2=>repeat (first|(with_reducible first|exact HB.out|apply below_alloc|apply pw_below_drewN|apply below_drew1|refine below_set ?_ (IsS91.ge HI0.out)|refine below_set ?_ GE169.out|refine below_set ?_ GE176.out)|exact HB.out));rintro e w32 ⟨rfl,hi,hb,hk⟩;refine ⟨_,rfl,?_⟩;have n0_:=Aside0.mk (KeepBut.blk hk (g':=gb169) (o:=.cells #[.bool false,.bool false,.int .i64 0,.int .i64 0,.int .i64 0,.slice none 0 0] 54 (0,0)) (by (with_reducible repeat (first|refine blk_drewN ?_ _|refine blk_drew ?_|refine blk_alloc ?_ _));refine blk_far ?_ NB169_176.out _;(with_reducible repeat (first|refine blk_drewN ?_ _|refine blk_drew ?_|refine blk_alloc ?_ _));exact BK169.out) NB169_0.out (by simp));have n1_:=Aside0.mk (Kd.N_mono (Kd.N_keep (Kd.N_mono (ok:=fun k_=>((((w.heap.size ≤ k_))∧(k_ ≠ gb169∧k_ ≠ g))∧k_ ≠ gb176)) (by (with_reducible repeat (first|apply Kd.N_alloc|apply Kd.N_drewN|apply Kd.N_drew));exact (Kd.N_mono (Kd.N_far (p:=⟨gb176,4,none⟩) (Kd.N_mono HO174.out (fun k_ hk=>(⟨hk,hk.2⟩ : _∧k_ ≠ gb176))) (fun _ hk=>hk.2) (.int .i64 t183)) (fun _ h_=>h_.1))) (fun k_ hk_=>(⟨hk_,hk_.1.2.2⟩ : _∧k_ ≠ g))) hk (fun _ h=>h.2)) (fun _ h=>h.1));have n2_:=Aside0.mk (KeepBut.blk hk (g':=gb176) (o:=.cells #[.bool (t170 == 0),.bool false,.int .i64 t179,.int .i64 t181,.int .i64 t183,.slice Ao10 t172.length co10] 54 (0,0)) (by (with_reducible repeat (first|refine blk_drewN ?_ _|refine blk_drew ?_|refine blk_alloc ?_ _));refine blk_put (cs:=#[.bool (t170 == 0),.bool false,.int .i64 t179,.int .i64 t181,.int .i64 0,.slice Ao10 t172.length co10]) ?_ 4 _ rfl;(with_reducible repeat (first|refine blk_drewN ?_ _|refine blk_drew ?_|refine blk_alloc ?_ _));exact BK176.out) NB176_0.out (by simp));have n3_:=Aside0.mk (KeepBut.trans (by repeat (first|(with_reducible first|exact HK.out|apply KeepBut.set_|apply keep_drewN|apply keep_drew|apply keep_alloc|refine keep_far ?_ GW169.out _|refine keep_far ?_ GW176.out _)|exact HK.out)) hk (.inl rfl));have n4_:=Aside0.mk (hb);have n5_:=Aside0.mk (hi);clear BK169;clear HO174;clear BK176;clear HK;clear HB;clear HI0;have BK169:=n0_;have HO174:=n1_;have BK176:=n2_;have HK:=n3_;have HB:=n4_;have HI0:=n5_;clear n0_ n1_ n2_ n3_ n4_ n5_;(try clear hb);(try clear hb2);(try clear hk);(try clear hi);have hcz33_0 : w32.cell? ⟨gb176,0,none⟩ = some (.bool (t170 == 0)):=(blk_cell BK176.out 0).trans rfl;have hcz33_1 : w32.cell? ⟨gb176,1,none⟩ = some (.bool false):=(blk_cell BK176.out 1).trans rfl;have hcz33_2 : w32.cell? ⟨gb176,2,none⟩ = some (.int .i64 t179):=(blk_cell BK176.out 2).trans rfl;have hcz33_3 : w32.cell? ⟨gb176,3,none⟩ = some (.int .i64 t181):=(blk_cell BK176.out 3).trans rfl;have hcz33_4 : w32.cell? ⟨gb176,4,none⟩ = some (.int .i64 t183):=(blk_cell BK176.out 4).trans rfl;have hcz33_5 : w32.cell? ⟨gb176,5,none⟩ = some (.slice Ao10 t172.length co10):=(blk_cell BK176.out 5).trans rfl;have hfz33_0:=blk_frozen BK176.out 0;have hfz33_1:=blk_frozen BK176.out 1;have hfz33_2:=blk_frozen BK176.out 2;have hfz33_3:=blk_frozen BK176.out 3;have hfz33_4:=blk_frozen BK176.out 4;have hfz33_5:=blk_frozen BK176.out 5)|((with_reducible refine gate_callee (f:=65) rfl ?_);refine goesL_ (some 31) rfl rfl Try.func65 (by kernel_rfl) rfl #[.pointer (some ⟨g,0,none⟩),.int .i64 200] rfl (by (try simp only [List.map_toArray,List.map_cons,List.map_nil]);first|done|rfl|(simp only [List.length_drop,List.length_take];rfl)) ?_;(with_reducible refine (spec_l6Rd_pick.calls k g s0_0 t186 200 t187 t188 w0 _ ?side1 ?side2 A22.out).mono ?_);(case side1=>repeat (first|(with_reducible first|exact HI0.out|apply IsS91.alloc|apply IsS91.drewN|apply IsS91.drew|apply IsS91.set_1|refine IsS91.far ?_ NB0_169.out _|refine IsS91.far ?_ NB0_176.out _)|exact HI0.out));(case side2=>repeat (first|(with_reducible first|exact HB.out|apply below_alloc|apply pw_below_drewN|apply below_drew1|refine below_set ?_ (IsS91.ge HI0.out)|refine below_set ?_ GE169.out|refine below_set ?_ GE176.out)|exact HB.out));rintro e w34 ⟨rfl,hi,hb,hk⟩;refine ⟨_,rfl,?_⟩;have n0_:=Aside0.mk (KeepBut.blk hk (g':=gb169) (o:=.cells #[.bool false,.bool false,.int .i64 0,.int .i64 0,.int .i64 0,.slice none 0 0] 54 (0,0)) (by (with_reducible repeat (first|refine blk_drewN ?_ _|refine blk_drew ?_|refine blk_alloc ?_ _));refine blk_far ?_ NB169_176.out _;(with_reducible repeat (first|refine blk_drewN ?_ _|refine blk_drew ?_|refine blk_alloc ?_ _));exact BK169.out) NB169_0.out (by simp));have n1_:=Aside0.mk (Kd.N_mono (Kd.N_keep (Kd.N_mono (ok:=fun k_=>((((w.heap.size ≤ k_))∧(k_ ≠ gb169∧k_ ≠ g))∧k_ ≠ gb176)) (by (with_reducible repeat (first|apply Kd.N_alloc|apply Kd.N_drewN|apply Kd.N_drew));exact (Kd.N_mono (Kd.N_far (p:=⟨gb176,1,none⟩) (Kd.N_mono HO174.out (fun k_ hk=>(⟨hk,hk.2⟩ : _∧k_ ≠ gb176))) (fun _ hk=>hk.2) (.bool true)) (fun _ h_=>h_.1))) (fun k_ hk_=>(⟨hk_,hk_.1.2.2⟩ : _∧k_ ≠ g))) hk (fun _ h=>h.2)) (fun _ h=>h.1));have n2_:=Aside0.mk (KeepBut.blk hk (g':=gb176) (o:=.cells #[.bool (t170 == 0),.bool true,.int .i64 t179,.int .i64 t181,.int .i64 t183,.slice Ao10 t172.length co10] 54 (0,0)) (by (with_reducible repeat (first|refine blk_drewN ?_ _|refine blk_drew ?_|refine blk_alloc ?_ _));refine blk_put (cs:=#[.bool (t170 == 0),.bool false,.int .i64 t179,.int .i64 t181,.int .i64 t183,.slice Ao10 t172.length co10]) ?_ 1 _ rfl;(with_reducible repeat (first|refine blk_drewN ?_ _|refine blk_drew ?_|refine blk_alloc ?_ _));exact BK176.out) NB176_0.out (by simp));have n3_:=Aside0.mk (KeepBut.trans (by repeat (first|(with_reducible first|exact HK.out|apply KeepBut.set_|apply keep_drewN|apply keep_drew|apply keep_alloc|refine keep_far ?_ GW169.out _|refine keep_far ?_ GW176.out _)|exact HK.out)) hk (.inl rfl));have n4_:=Aside0.mk (hb);have n5_:=Aside0.mk (hi);clear BK169;clear HO174;clear BK176;clear HK;clear HB;clear HI0;have BK169:=n0_;have HO174:=n1_;have BK176:=n2_;have HK:=n3_;have HB:=n4_;have HI0:=n5_;clear n0_ n1_ n2_ n3_ n4_ n5_;(try clear hb);(try clear hb2);(try clear hk);(try clear hi))|((with_reducible refine gate_dst (N:=32) rfl ?_);refine Kd.R_lit (Kd.int .i64) _ 3 ?hg (N:=32) ?hd (xs:=([] : List Int)) (inner:=[]) (ok:=fun _=>True) (okp:=fun _=>True) ?hr ?hp (fun _ hk=>hk) trivial (Below.refl _ _) (Nat.le_refl _) (by simp) ?_;(case hd=>rfl);(case hg=>rfl);(case hr=>first|(go_simp;done)|(go_simp;rfl));(case hp=>exact (Reps.none _ _));intro v190 w35 ho36 hb hg_ hnew_;clear hg_ hnew_;(first|rw [← Ny189.out] at ho36|(simp only [Int.reduceToNat] at ho36;rw [← Ny189.out] at ho36));have n0_:=Aside0.mk (Kd.N_elder' (by (with_reducible repeat (first|apply Kd.N_alloc|apply Kd.N_drewN|apply Kd.N_drew));exact HO174.out) (Kd.R_base ho36) hb);have n1_:=Aside0.mk (Kd.R_lower (Kd.R_newM (M:=fun k_=>(w.heap.size ≤ k_)) ho36 (keep_size (w:=w) (g:=g) (row:=none) (by repeat (first|(with_reducible first|exact HK.out|apply KeepBut.set_|apply keep_drewN|apply keep_drew|apply keep_alloc|refine keep_far ?_ GW169.out _|refine keep_far ?_ GW176.out _)|exact HK.out))) (fun k_ h_=>h_)) (keep_size (w:=w) (g:=g) (row:=none) (by repeat (first|(with_reducible first|exact HK.out|apply KeepBut.set_|apply keep_drewN|apply keep_drew|apply keep_alloc|refine keep_far ?_ GW169.out _|refine keep_far ?_ GW176.out _)|exact HK.out))));have n2_:=Aside0.mk (IsS91.below (by repeat (first|(with_reducible first|exact HI0.out|apply IsS91.alloc|apply IsS91.drewN|apply IsS91.drew|apply IsS91.set_1|refine IsS91.far ?_ NB0_169.out _|refine IsS91.far ?_ NB0_176.out _)|exact HI0.out)) hb);have n3_:=Aside0.mk (blk_below (g:=gb169) (o:=.cells #[.bool false,.bool false,.int .i64 0,.int .i64 0,.int .i64 0,.slice none 0 0] 54 (0,0)) (by (with_reducible repeat (first|refine blk_drewN ?_ _|refine blk_drew ?_|refine blk_alloc ?_ _));exact BK169.out) hb);have n4_:=Aside0.mk (blk_below (g:=gb176) (o:=.cells #[.bool (t170 == 0),.bool true,.int .i64 t179,.int .i64 t181,.int .i64 t183,.slice Ao10 t172.length co10] 54 (0,0)) (by (with_reducible repeat (first|refine blk_drewN ?_ _|refine blk_drew ?_|refine blk_alloc ?_ _));exact BK176.out) hb);have n5_:=Aside0.mk (KeepBut.trans (by repeat (first|(with_reducible first|exact HK.out|apply KeepBut.set_|apply keep_drewN|apply keep_drew|apply keep_alloc|refine keep_far ?_ GW169.out _|refine keep_far ?_ GW176.out _)|exact HK.out)) (KeepBut.of_below hb g none) (.inl rfl));have n6_:=Aside0.mk (below_step (by repeat (first|(with_reducible first|exact HB.out|apply below_alloc|apply pw_below_drewN|apply below_drew1|refine below_set ?_ (IsS91.ge HI0.out)|refine below_set ?_ GE169.out|refine below_set ?_ GE176.out)|exact HB.out)) hb);clear HO174;clear HI0;clear BK169;clear BK176;clear HK;clear HB;have HO174:=n0_;have HO191:=n1_;have HI0:=n2_;have BK169:=n3_;have BK176:=n4_;have HK:=n5_;have HB:=n6_;clear n0_ n1_ n2_ n3_ n4_ n5_ n6_;clear hb ho36)|((with_reducible refine gate_callee (f:=65) rfl ?_);refine goesL_ (some 34) rfl rfl Try.func65 (by kernel_rfl) rfl #[.pointer (some ⟨g,0,none⟩),.int .i64 2] rfl (by (try simp only [List.map_toArray,List.map_cons,List.map_nil]);first|done|rfl|(simp only [List.length_drop,List.length_take];rfl)) ?_;(with_reducible refine (spec_l6Rd_pick.calls k g s0_0 t188 2 t192 t193 w0 _ ?side1 ?side2 A23.out).mono ?_);(case side1=>repeat (first|(with_reducible first|exact HI0.out|apply IsS91.alloc|apply IsS91.drewN|apply IsS91.drew|apply IsS91.set_1|refine IsS91.far ?_ NB0_169.out _|refine IsS91.far ?_ NB0_176.out _)|exact HI0.out));(case side2=>repeat (first|(with_reducible first|exact HB.out|apply below_alloc|apply pw_below_drewN|apply below_drew1|refine below_set ?_ (IsS91.ge HI0.out)|refine below_set ?_ GE169.out|refine below_set ?_ GE176.out)|exact HB.out));rintro e w37 ⟨rfl,hi,hb,hk⟩;refine ⟨_,rfl,?_⟩;have n0_:=Aside0.mk (KeepBut.blk hk (g':=gb169) (o:=.cells #[.bool false,.bool false,.int .i64 0,.int .i64 0,.int .i64 0,.slice none 0 0] 54 (0,0)) (by (with_reducible repeat (first|refine blk_drewN ?_ _|refine blk_drew ?_|refine blk_alloc ?_ _));exact BK169.out) NB169_0.out (by simp));have n1_:=Aside0.mk (Kd.N_mono (Kd.N_keep (Kd.N_mono (ok:=fun k_=>(((((w.heap.size ≤ k_))∧(k_ ≠ gb169∧k_ ≠ g))∧k_ ≠ gb176)∧some k_ ≠ (v190 : Value).ownBlock)) (by (with_reducible repeat (first|apply Kd.N_alloc|apply Kd.N_drewN|apply Kd.N_drew));exact HO174.out) (fun k_ hk_=>(⟨hk_,hk_.1.1.2.2⟩ : _∧k_ ≠ g))) hk (fun _ h=>h.2)) (fun _ h=>h.1));have n2_:=Aside0.mk (KeepBut.blk hk (g':=gb176) (o:=.cells #[.bool (t170 == 0),.bool true,.int .i64 t179,.int .i64 t181,.int .i64 t183,.slice Ao10 t172.length co10] 54 (0,0)) (by (with_reducible repeat (first|refine blk_drewN ?_ _|refine blk_drew ?_|refine blk_alloc ?_ _));exact BK176.out) NB176_0.out (by simp));have n3_:=Aside0.mk (Kd.R_mono (Kd.R_keep (IsS91.apart (show IsS91 w0 _ g s0_0 t188 from by repeat (first|(with_reducible first|exact HI0.out|apply IsS91.alloc|apply IsS91.drewN|apply IsS91.drew|apply IsS91.set_1|refine IsS91.far ?_ NB0_169.out _|refine IsS91.far ?_ NB0_176.out _)|exact HI0.out)) (by (with_reducible repeat (first|apply Kd.R_alloc|apply Kd.R_drewN|apply Kd.R_drew));exact HO191.out) (by decide)) hk (fun _ h=>h.2)) (fun _ h=>h.1));have n4_:=Aside0.mk (KeepBut.trans (by repeat (first|(with_reducible first|exact HK.out|apply KeepBut.set_|apply keep_drewN|apply keep_drew|apply keep_alloc|refine keep_far ?_ GW169.out _|refine keep_far ?_ GW176.out _)|exact HK.out)) hk (.inl rfl));have n5_:=Aside0.mk (hb);have n6_:=Aside0.mk (hi);clear BK169;clear HO174;clear BK176;clear HO191;clear HK;clear HB;clear HI0;have BK169:=n0_;have HO174:=n1_;have BK176:=n2_;have HO191:=n3_;have HK:=n4_;have HB:=n5_;have HI0:=n6_;clear n0_ n1_ n2_ n3_ n4_ n5_ n6_;(try clear hb);(try clear hb2);(try clear hk);(try clear hi))|((with_reducible refine gate_dst (N:=35) rfl ?_);refine Kd.R_lit (Kd.int .i64) _ 3 ?hg (N:=35) ?hd (xs:=([t192] : List Int)) (inner:=[.int .i64 t192]) (ok:=fun _=>True) (okp:=fun _=>True) ?hr ?hp (fun _ hk=>hk) trivial (Below.refl _ _) (Nat.le_refl _) (by simp) ?_;(case hd=>rfl);(case hg=>rfl);(case hr=>first|(go_simp;done)|(go_simp;rfl));(case hp=>exact (Reps.one (show Kd.M (Kd.int .i64) _ _ _ t192 [.int .i64 t192] from rfl) (Reps.none _ _)));intro v195 w38 ho39 hb hg_ hnew_;clear hg_ hnew_;(first|rw [← Ny194.out] at ho39|(simp only [Int.reduceToNat] at ho39;rw [← Ny194.out] at ho39));have n0_:=Aside0.mk (Kd.N_elder' (by (with_reducible repeat (first|apply Kd.N_alloc|apply Kd.N_drewN|apply Kd.N_drew));exact HO174.out) (Kd.R_base ho39) hb);have n1_:=Aside0.mk (Kd.R_elder' (by (with_reducible repeat (first|apply Kd.R_alloc|apply Kd.R_drewN|apply Kd.R_drew));exact HO191.out) (Kd.R_base ho39) hb);have n2_:=Aside0.mk (Kd.R_lower (Kd.R_new' (Kd.R_newM (M:=fun k_=>(w.heap.size ≤ k_)) ho39 (keep_size (w:=w) (g:=g) (row:=none) (by repeat (first|(with_reducible first|exact HK.out|apply KeepBut.set_|apply keep_drewN|apply keep_drew|apply keep_alloc|refine keep_far ?_ GW169.out _|refine keep_far ?_ GW176.out _)|exact HK.out))) (fun k_ h_=>h_)) (Kd.R_lt (by (with_reducible repeat (first|apply Kd.R_alloc|apply Kd.R_drewN|apply Kd.R_drew));exact HO191.out))) (keep_size (w:=w) (g:=g) (row:=none) (by repeat (first|(with_reducible first|exact HK.out|apply KeepBut.set_|apply keep_drewN|apply keep_drew|apply keep_alloc|refine keep_far ?_ GW169.out _|refine keep_far ?_ GW176.out _)|exact HK.out))));have n3_:=Aside0.mk (IsS91.below (by repeat (first|(with_reducible first|exact HI0.out|apply IsS91.alloc|apply IsS91.drewN|apply IsS91.drew|apply IsS91.set_1|refine IsS91.far ?_ NB0_169.out _|refine IsS91.far ?_ NB0_176.out _)|exact HI0.out)) hb);have n4_:=Aside0.mk (blk_below (g:=gb169) (o:=.cells #[.bool false,.bool false,.int .i64 0,.int .i64 0,.int .i64 0,.slice none 0 0] 54 (0,0)) (by (with_reducible repeat (first|refine blk_drewN ?_ _|refine blk_drew ?_|refine blk_alloc ?_ _));exact BK169.out) hb);have n5_:=Aside0.mk (blk_below (g:=gb176) (o:=.cells #[.bool (t170 == 0),.bool true,.int .i64 t179,.int .i64 t181,.int .i64 t183,.slice Ao10 t172.length co10] 54 (0,0)) (by (with_reducible repeat (first|refine blk_drewN ?_ _|refine blk_drew ?_|refine blk_alloc ?_ _));exact BK176.out) hb);have n6_:=Aside0.mk (KeepBut.trans (by repeat (first|(with_reducible first|exact HK.out|apply KeepBut.set_|apply keep_drewN|apply keep_drew|apply keep_alloc|refine keep_far ?_ GW169.out _|refine keep_far ?_ GW176.out _)|exact HK.out)) (KeepBut.of_below hb g none) (.inl rfl));have n7_:=Aside0.mk (below_step (by repeat (first|(with_reducible first|exact HB.out|apply below_alloc|apply pw_below_drewN|apply below_drew1|refine below_set ?_ (IsS91.ge HI0.out)|refine below_set ?_ GE169.out|refine below_set ?_ GE176.out)|exact HB.out)) hb);clear HO174;clear HO191;clear HI0;clear BK169;clear BK176;clear HK;clear HB;have HO174:=n0_;have HO191:=n1_;have HO196:=n2_;have HI0:=n3_;have BK169:=n4_;have BK176:=n5_;have HK:=n6_;have HB:=n7_;clear n0_ n1_ n2_ n3_ n4_ n5_ n6_ n7_;clear hb ho39;obtain ⟨Ao40,co40,eo40⟩:=Kd.R_slice HO196.out;subst eo40;obtain ⟨Ao41,co41,eo41⟩:=Kd.R_slice HO191.out;subst eo41)|((with_reducible refine gate_dst (N:=37) rfl ?_);refine Kd.N_lit k27 _ 27 ?hg (N':=37) ?hd (xs:=([(⟨a1,t187,false,y189,true,y194⟩ : S27)] : List (S27))) (inner:=[.int .i64 a1,.int .i64 t187,.bool false,.slice Ao41 y189.length co41,.bool true,.slice Ao40 y194.length co40]) (ok:=(fun k_=>(w.heap.size ≤ k_)∧some k_ ≠ (.slice Ao10 t172.length co10 : Value).ownBlock∧k_ ≠ gb169∧k_ ≠ gb176∧k_ ≠ g)) (okp:=(fun k_=>(w.heap.size ≤ k_)∧some k_ ≠ (.slice Ao10 t172.length co10 : Value).ownBlock∧k_ ≠ gb169∧k_ ≠ gb176∧k_ ≠ g)) ?hr ?hp (fun _ hk=>hk) ((show ∀ k_,w38.heap.size ≤ k_→(fun k_=>(w.heap.size ≤ k_)∧some k_ ≠ (.slice Ao10 t172.length co10 : Value).ownBlock∧k_ ≠ gb169∧k_ ≠ gb176∧k_ ≠ g) k_ from fun k_ hk=>⟨(Nat.le_trans (keep_size (w:=w) (g:=g) (row:=none) (by repeat (first|(with_reducible first|exact HK.out|apply KeepBut.set_|apply keep_drewN|apply keep_drew|apply keep_alloc|refine keep_far ?_ GW169.out _|refine keep_far ?_ GW176.out _)|exact HK.out))) hk),Kd.fresh' (Kd.N_lt (by (with_reducible repeat (first|apply Kd.N_alloc|apply Kd.N_drewN|apply Kd.N_drew));exact HO174.out)) k_ hk,Kd.freshB (g:=gb169) (o:=.cells #[.bool false,.bool false,.int .i64 0,.int .i64 0,.int .i64 0,.slice none 0 0] 54 (0,0)) (by (with_reducible repeat (first|refine blk_drewN ?_ _|refine blk_drew ?_|refine blk_alloc ?_ _));exact BK169.out) k_ hk,Kd.freshB (g:=gb176) (o:=.cells #[.bool (t170 == 0),.bool true,.int .i64 t179,.int .i64 t181,.int .i64 t183,.slice Ao10 t172.length co10] 54 (0,0)) (by (with_reducible repeat (first|refine blk_drewN ?_ _|refine blk_drew ?_|refine blk_alloc ?_ _));exact BK176.out) k_ hk,IsS91.fresh (by repeat (first|(with_reducible first|exact HI0.out|apply IsS91.alloc|apply IsS91.drewN|apply IsS91.drew|apply IsS91.set_1|refine IsS91.far ?_ NB0_169.out _|refine IsS91.far ?_ NB0_176.out _)|exact HI0.out)) k_ hk⟩) _ (Nat.le_refl _)) (Below.refl _ _) (Nat.le_refl _) (by simp) ?_;(case hd=>rfl);(case hg=>rfl);(case hr=>first|(go_simp;done)|(go_simp;rfl));(case hp=>exact (Reps.c6 (show Kd.FK k27 _ _ (⟨a1,t187,false,y189,true,y194⟩ : S27) [.int .i64 a1,.int .i64 t187,.bool false,.slice Ao41 y189.length co41,.bool true,.slice Ao40 y194.length co40] from (k27_mkF _ _ (⟨a1,t187,false,y189,true,y194⟩ : S27) (Kd.R_reads' (Kd.R_mono (ok':=(fun k_=>(w.heap.size ≤ k_)∧some k_ ≠ (.slice Ao10 t172.length co10 : Value).ownBlock∧k_ ≠ gb169∧k_ ≠ gb176∧k_ ≠ g)) (IsS91.apart HI0.out (Kd.R_types (Kd.R_types (Kd.R_apart' (HO191.out) (Kd.N_typed HO174.out) (by decide)) BK169.out (by decide)) BK176.out (by decide)) (by decide)) (fun k_ hk=>⟨hk.1.1.1.1.1.1,⟨hk.1.1.1.2,⟨hk.1.1.2,⟨hk.1.2,hk.2⟩⟩⟩⟩))).2.1 (Kd.R_F (Kd.R_mono (ok':=(fun k_=>(w.heap.size ≤ k_)∧some k_ ≠ (.slice Ao10 t172.length co10 : Value).ownBlock∧k_ ≠ gb169∧k_ ≠ gb176∧k_ ≠ g)) (IsS91.apart HI0.out (Kd.R_types (Kd.R_types (Kd.R_apart' (HO191.out) (Kd.N_typed HO174.out) (by decide)) BK169.out (by decide)) BK176.out (by decide)) (by decide)) (fun k_ hk=>⟨hk.1.1.1.1.1.1,⟨hk.1.1.1.2,⟨hk.1.1.2,⟨hk.1.2,hk.2⟩⟩⟩⟩))) (Kd.R_reads' (Kd.R_mono (ok':=(fun k_=>(w.heap.size ≤ k_)∧some k_ ≠ (.slice Ao10 t172.length co10 : Value).ownBlock∧k_ ≠ gb169∧k_ ≠ gb176∧k_ ≠ g)) (IsS91.apart HI0.out (Kd.R_types (Kd.R_types (Kd.R_apart' (HO196.out) (Kd.N_typed HO174.out) (by decide)) BK169.out (by decide)) BK176.out (by decide)) (by decide)) (fun k_ hk=>⟨hk.1.1.1.1.1.1,⟨hk.1.1.1.2,⟨hk.1.1.2,⟨hk.1.2,hk.2⟩⟩⟩⟩))).2.1 (Kd.R_F (Kd.R_mono (ok':=(fun k_=>(w.heap.size ≤ k_)∧some k_ ≠ (.slice Ao10 t172.length co10 : Value).ownBlock∧k_ ≠ gb169∧k_ ≠ gb176∧k_ ≠ g)) (IsS91.apart HI0.out (Kd.R_types (Kd.R_types (Kd.R_apart' (HO196.out) (Kd.N_typed HO174.out) (by decide)) BK169.out (by decide)) BK176.out (by decide)) (by decide)) (fun k_ hk=>⟨hk.1.1.1.1.1.1,⟨hk.1.1.1.2,⟨hk.1.1.2,⟨hk.1.2,hk.2⟩⟩⟩⟩))))) (Reps.none _ _)));intro v198 w42 ho43 hb hg_ hnew_;clear hg_ hnew_;(first|rw [← Ny197.out] at ho43|(simp only [Int.reduceToNat] at ho43;rw [← Ny197.out] at ho43));have n0_:=Aside0.mk (Kd.N_elder' (by (with_reducible repeat (first|apply Kd.N_alloc|apply Kd.N_drewN|apply Kd.N_drew));exact HO174.out) (Kd.N_base ho43) hb);have n1_:=Aside0.mk (Kd.N_lower ho43 (keep_size (w:=w) (g:=g) (row:=none) (by repeat (first|(with_reducible first|exact HK.out|apply KeepBut.set_|apply keep_drewN|apply keep_drew|apply keep_alloc|refine keep_far ?_ GW169.out _|refine keep_far ?_ GW176.out _)|exact HK.out))));have n2_:=Aside0.mk (IsS91.below (by repeat (first|(with_reducible first|exact HI0.out|apply IsS91.alloc|apply IsS91.drewN|apply IsS91.drew|apply IsS91.set_1|refine IsS91.far ?_ NB0_169.out _|refine IsS91.far ?_ NB0_176.out _)|exact HI0.out)) hb);have n3_:=Aside0.mk (blk_below (g:=gb169) (o:=.cells #[.bool false,.bool false,.int .i64 0,.int .i64 0,.int .i64 0,.slice none 0 0] 54 (0,0)) (by (with_reducible repeat (first|refine blk_drewN ?_ _|refine blk_drew ?_|refine blk_alloc ?_ _));exact BK169.out) hb);have n4_:=Aside0.mk (blk_below (g:=gb176) (o:=.cells #[.bool (t170 == 0),.bool true,.int .i64 t179,.int .i64 t181,.int .i64 t183,.slice Ao10 t172.length co10] 54 (0,0)) (by (with_reducible repeat (first|refine blk_drewN ?_ _|refine blk_drew ?_|refine blk_alloc ?_ _));exact BK176.out) hb);have n5_:=Aside0.mk (KeepBut.trans (by repeat (first|(with_reducible first|exact HK.out|apply KeepBut.set_|apply keep_drewN|apply keep_drew|apply keep_alloc|refine keep_far ?_ GW169.out _|refine keep_far ?_ GW176.out _)|exact HK.out)) (KeepBut.of_below hb g none) (.inl rfl));have n6_:=Aside0.mk (below_step (by repeat (first|(with_reducible first|exact HB.out|apply below_alloc|apply pw_below_drewN|apply below_drew1|refine below_set ?_ (IsS91.ge HI0.out)|refine below_set ?_ GE169.out|refine below_set ?_ GE176.out)|exact HB.out)) hb);clear HO174;clear HI0;clear BK169;clear BK176;clear HK;clear HB;clear HO191;clear HO196;have HO174:=n0_;have HO199:=n1_;have HI0:=n2_;have BK169:=n3_;have BK176:=n4_;have HK:=n5_;have HB:=n6_;clear n0_ n1_ n2_ n3_ n4_ n5_ n6_;clear hb ho43;obtain ⟨Ao44,co44,eo44⟩:=Kd.N_slice HO199.out;subst eo44;have hcz45_0 : w42.cell? ⟨gb176,0,none⟩ = some (.bool (t170 == 0)):=(blk_cell BK176.out 0).trans rfl;have hcz45_1 : w42.cell? ⟨gb176,1,none⟩ = some (.bool true):=(blk_cell BK176.out 1).trans rfl;have hcz45_2 : w42.cell? ⟨gb176,2,none⟩ = some (.int .i64 t179):=(blk_cell BK176.out 2).trans rfl;have hcz45_3 : w42.cell? ⟨gb176,3,none⟩ = some (.int .i64 t181):=(blk_cell BK176.out 3).trans rfl;have hcz45_4 : w42.cell? ⟨gb176,4,none⟩ = some (.int .i64 t183):=(blk_cell BK176.out 4).trans rfl;have hcz45_5 : w42.cell? ⟨gb176,5,none⟩ = some (.slice Ao10 t172.length co10):=(blk_cell BK176.out 5).trans rfl;have hfz45_0:=blk_frozen BK176.out 0;have hfz45_1:=blk_frozen BK176.out 1;have hfz45_2:=blk_frozen BK176.out 2;have hfz45_3:=blk_frozen BK176.out 3;have hfz45_4:=blk_frozen BK176.out 4;have hfz45_5:=blk_frozen BK176.out 5))
    go_meet
    case rel=>exact ⟨_,(t193),(true),(t179),(t181),(t183),(y197),(.slice Ao44 y197.length co44),H',⟨by first|omega|exact Nat.le_refl _⟩,⟨by (with_reducible repeat (first|apply Kd.N_alloc|apply Kd.N_drewN|apply Kd.N_drew));exact Kd.N_mono (Kd.N_far (p:=⟨gb176,5,none⟩) (Kd.N_mono HO199.out (fun k_ hk=>(⟨hk,hk.2.2.2.1⟩ : _∧k_ ≠ gb176))) (fun _ hk=>hk.2) (.slice Ao44 y197.length co44)) (fun _ hk=>⟨hk.1.1,⟨hk.1.2.2.1,⟨hk.1.2.2.2.1,hk.1.2.2.2.2⟩⟩⟩)⟩,⟨by (with_reducible repeat (first|refine blk_drewN ?_ _|refine blk_drew ?_|refine blk_alloc ?_ _));refine blk_far ?_ NB169_176.out _;(with_reducible repeat (first|refine blk_drewN ?_ _|refine blk_drew ?_|refine blk_alloc ?_ _));exact BK169.out⟩,⟨by (with_reducible repeat (first|refine blk_drewN ?_ _|refine blk_drew ?_|refine blk_alloc ?_ _));refine blk_put (cs:=#[.bool (t170 == 0),.bool true,.int .i64 t179,.int .i64 t181,.int .i64 t183,.slice Ao10 t172.length co10]) ?_ 5 _ rfl;(with_reducible repeat (first|refine blk_drewN ?_ _|refine blk_drew ?_|refine blk_alloc ?_ _));exact BK176.out⟩,⟨by repeat (first|(with_reducible first|exact HI0.out|apply IsS91.alloc|apply IsS91.drewN|apply IsS91.drew|apply IsS91.set_1|refine IsS91.far ?_ NB0_169.out _|refine IsS91.far ?_ NB0_176.out _)|exact HI0.out)⟩,⟨by repeat (first|(with_reducible first|exact HK.out|apply KeepBut.set_|apply keep_drewN|apply keep_drew|apply keep_alloc|refine keep_far ?_ GW169.out _|refine keep_far ?_ GW176.out _)|exact HK.out)⟩,⟨by repeat (first|(with_reducible first|exact HB.out|apply below_alloc|apply pw_below_drewN|apply below_drew1|refine below_set ?_ (IsS91.ge HI0.out)|refine below_set ?_ GE169.out|refine below_set ?_ GE176.out)|exact HB.out)⟩⟩
   ·rw [if_neg c21] at H
    have c21b0 : (t185 == 0)=false:=beq_eq_false_iff_ne.mpr c21
    have c21b1 : (t185 != 0)=true:=bne_iff_ne.mpr c21
    have H':=Aside0.mk H
    clear H
    go_wp2_with (first|((with_reducible refine gate_callee (f:=65) rfl ?_);refine goesL_ (some 17) rfl rfl Try.func65 (by kernel_rfl) rfl #[.pointer (some ⟨g,0,none⟩),.int .i64 3] rfl (by (try simp only [List.map_toArray,List.map_cons,List.map_nil]);first|done|rfl|(simp only [List.length_drop,List.length_take];rfl)) ?_;(with_reducible refine (spec_l6Rd_pick.calls k g s0_0 t178 3 t179 t180 w0 _ ?side1 ?side2 A17.out).mono ?_);(case side1=>repeat (first|(with_reducible first|exact HI0.out|apply IsS91.alloc|apply IsS91.drewN|apply IsS91.drew|apply IsS91.set_1|refine IsS91.far ?_ NB0_169.out _|refine IsS91.far ?_ NB0_176.out _)|exact HI0.out));(case side2=>repeat (first|(with_reducible first|exact HB.out|apply below_alloc|apply pw_below_drewN|apply below_drew1|refine below_set ?_ (IsS91.ge HI0.out)|refine below_set ?_ GE169.out|refine below_set ?_ GE176.out)|exact HB.out));rintro e w46 ⟨rfl,hi,hb,hk⟩;refine ⟨_,rfl,?_⟩;have n0_:=Aside0.mk (KeepBut.blk hk (g':=gb169) (o:=.cells #[.bool false,.bool false,.int .i64 0,.int .i64 0,.int .i64 0,.slice none 0 0] 54 (0,0)) (by (with_reducible repeat (first|refine blk_drewN ?_ _|refine blk_drew ?_|refine blk_alloc ?_ _));exact BK169.out) NB169_0.out (by simp));have n1_:=Aside0.mk (Kd.N_mono (Kd.N_keep (Kd.N_mono (ok:=fun k_=>((((w.heap.size ≤ k_))∧(k_ ≠ gb169∧k_ ≠ g))∧k_ ≠ gb176)) (by (with_reducible repeat (first|apply Kd.N_alloc|apply Kd.N_drewN|apply Kd.N_drew));exact HO174.out) (fun k_ hk_=>(⟨hk_,hk_.1.2.2⟩ : _∧k_ ≠ g))) hk (fun _ h=>h.2)) (fun _ h=>h.1));have n2_:=Aside0.mk (KeepBut.blk hk (g':=gb176) (o:=.cells #[.bool (t170 == 0),.bool false,.int .i64 255,.int .i64 0,.int .i64 0,.slice Ao10 t172.length co10] 54 (0,0)) (by (with_reducible repeat (first|refine blk_drewN ?_ _|refine blk_drew ?_|refine blk_alloc ?_ _));exact BK176.out) NB176_0.out (by simp));have n3_:=Aside0.mk (KeepBut.trans (by repeat (first|(with_reducible first|exact HK.out|apply KeepBut.set_|apply keep_drewN|apply keep_drew|apply keep_alloc|refine keep_far ?_ GW169.out _|refine keep_far ?_ GW176.out _)|exact HK.out)) hk (.inl rfl));have n4_:=Aside0.mk (hb);have n5_:=Aside0.mk (hi);clear BK169;clear HO174;clear BK176;clear HK;clear HB;clear HI0;have BK169:=n0_;have HO174:=n1_;have BK176:=n2_;have HK:=n3_;have HB:=n4_;have HI0:=n5_;clear n0_ n1_ n2_ n3_ n4_ n5_;(try clear hb);(try clear hb2);(try clear hk);(try clear hi);have hnb47:=NB176_169.out;have hnc47:=NB169_176.out;have hnb48:=NB176_0.out;have hnc48:=NB0_176.out;have hcz49_0 : w46.cell? ⟨gb176,0,none⟩ = some (.bool (t170 == 0)):=(blk_cell BK176.out 0).trans rfl;have hcz49_1 : w46.cell? ⟨gb176,1,none⟩ = some (.bool false):=(blk_cell BK176.out 1).trans rfl;have hcz49_2 : w46.cell? ⟨gb176,2,none⟩ = some (.int .i64 255):=(blk_cell BK176.out 2).trans rfl;have hcz49_3 : w46.cell? ⟨gb176,3,none⟩ = some (.int .i64 0):=(blk_cell BK176.out 3).trans rfl;have hcz49_4 : w46.cell? ⟨gb176,4,none⟩ = some (.int .i64 0):=(blk_cell BK176.out 4).trans rfl;have hcz49_5 : w46.cell? ⟨gb176,5,none⟩ = some (.slice Ao10 t172.length co10):=(blk_cell BK176.out 5).trans rfl;have hfz49_0:=blk_frozen BK176.out 0;have hfz49_1:=blk_frozen BK176.out 1;have hfz49_2:=blk_frozen BK176.out 2;have hfz49_3:=blk_frozen BK176.out 3;have hfz49_4:=blk_frozen BK176.out 4;have hfz49_5:=blk_frozen BK176.out 5)|((with_reducible refine gate_callee (f:=65) rfl ?_);refine goesL_ (some 20) rfl rfl Try.func65 (by kernel_rfl) rfl #[.pointer (some ⟨g,0,none⟩),.int .i64 3] rfl (by (try simp only [List.map_toArray,List.map_cons,List.map_nil]);first|done|rfl|(simp only [List.length_drop,List.length_take];rfl)) ?_;(with_reducible refine (spec_l6Rd_pick.calls k g s0_0 t180 3 t181 t182 w0 _ ?side1 ?side2 A18.out).mono ?_);(case side1=>repeat (first|(with_reducible first|exact HI0.out|apply IsS91.alloc|apply IsS91.drewN|apply IsS91.drew|apply IsS91.set_1|refine IsS91.far ?_ NB0_169.out _|refine IsS91.far ?_ NB0_176.out _)|exact HI0.out));(case side2=>repeat (first|(with_reducible first|exact HB.out|apply below_alloc|apply pw_below_drewN|apply below_drew1|refine below_set ?_ (IsS91.ge HI0.out)|refine below_set ?_ GE169.out|refine below_set ?_ GE176.out)|exact HB.out));rintro e w50 ⟨rfl,hi,hb,hk⟩;refine ⟨_,rfl,?_⟩;have n0_:=Aside0.mk (KeepBut.blk hk (g':=gb169) (o:=.cells #[.bool false,.bool false,.int .i64 0,.int .i64 0,.int .i64 0,.slice none 0 0] 54 (0,0)) (by (with_reducible repeat (first|refine blk_drewN ?_ _|refine blk_drew ?_|refine blk_alloc ?_ _));refine blk_far ?_ NB169_176.out _;(with_reducible repeat (first|refine blk_drewN ?_ _|refine blk_drew ?_|refine blk_alloc ?_ _));exact BK169.out) NB169_0.out (by simp));have n1_:=Aside0.mk (Kd.N_mono (Kd.N_keep (Kd.N_mono (ok:=fun k_=>((((w.heap.size ≤ k_))∧(k_ ≠ gb169∧k_ ≠ g))∧k_ ≠ gb176)) (by (with_reducible repeat (first|apply Kd.N_alloc|apply Kd.N_drewN|apply Kd.N_drew));exact (Kd.N_mono (Kd.N_far (p:=⟨gb176,2,none⟩) (Kd.N_mono HO174.out (fun k_ hk=>(⟨hk,hk.2⟩ : _∧k_ ≠ gb176))) (fun _ hk=>hk.2) (.int .i64 t179)) (fun _ h_=>h_.1))) (fun k_ hk_=>(⟨hk_,hk_.1.2.2⟩ : _∧k_ ≠ g))) hk (fun _ h=>h.2)) (fun _ h=>h.1));have n2_:=Aside0.mk (KeepBut.blk hk (g':=gb176) (o:=.cells #[.bool (t170 == 0),.bool false,.int .i64 t179,.int .i64 0,.int .i64 0,.slice Ao10 t172.length co10] 54 (0,0)) (by (with_reducible repeat (first|refine blk_drewN ?_ _|refine blk_drew ?_|refine blk_alloc ?_ _));refine blk_put (cs:=#[.bool (t170 == 0),.bool false,.int .i64 255,.int .i64 0,.int .i64 0,.slice Ao10 t172.length co10]) ?_ 2 _ rfl;(with_reducible repeat (first|refine blk_drewN ?_ _|refine blk_drew ?_|refine blk_alloc ?_ _));exact BK176.out) NB176_0.out (by simp));have n3_:=Aside0.mk (KeepBut.trans (by repeat (first|(with_reducible first|exact HK.out|apply KeepBut.set_|apply keep_drewN|apply keep_drew|apply keep_alloc|refine keep_far ?_ GW169.out _|refine keep_far ?_ GW176.out _)|exact HK.out)) hk (.inl rfl));have n4_:=Aside0.mk (hb);have n5_:=Aside0.mk (hi);clear BK169;clear HO174;clear BK176;clear HK;clear HB;clear HI0;have BK169:=n0_;have HO174:=n1_;have BK176:=n2_;have HK:=n3_;have HB:=n4_;have HI0:=n5_;clear n0_ n1_ n2_ n3_ n4_ n5_;(try clear hb);(try clear hb2);(try clear hk);(try clear hi);have hcz51_0 : w50.cell? ⟨gb176,0,none⟩ = some (.bool (t170 == 0)):=(blk_cell BK176.out 0).trans rfl;have hcz51_1 : w50.cell? ⟨gb176,1,none⟩ = some (.bool false):=(blk_cell BK176.out 1).trans rfl;have hcz51_2 : w50.cell? ⟨gb176,2,none⟩ = some (.int .i64 t179):=(blk_cell BK176.out 2).trans rfl;have hcz51_3 : w50.cell? ⟨gb176,3,none⟩ = some (.int .i64 0):=(blk_cell BK176.out 3).trans rfl;have hcz51_4 : w50.cell? ⟨gb176,4,none⟩ = some (.int .i64 0):=(blk_cell BK176.out 4).trans rfl;have hcz51_5 : w50.cell? ⟨gb176,5,none⟩ = some (.slice Ao10 t172.length co10):=(blk_cell BK176.out 5).trans rfl;have hfz51_0:=blk_frozen BK176.out 0;have hfz51_1:=blk_frozen BK176.out 1;have hfz51_2:=blk_frozen BK176.out 2;have hfz51_3:=blk_frozen BK176.out 3;have hfz51_4:=blk_frozen BK176.out 4;have hfz51_5:=blk_frozen BK176.out 5)|((with_reducible refine gate_callee (f:=65) rfl ?_);refine goesL_ (some 23) rfl rfl Try.func65 (by kernel_rfl) rfl #[.pointer (some ⟨g,0,none⟩),.int .i64 5] rfl (by (try simp only [List.map_toArray,List.map_cons,List.map_nil]);first|done|rfl|(simp only [List.length_drop,List.length_take];rfl)) ?_;(with_reducible refine (spec_l6Rd_pick.calls k g s0_0 t182 5 t183 t184 w0 _ ?side1 ?side2 A19.out).mono ?_);(case side1=>repeat (first|(with_reducible first|exact HI0.out|apply IsS91.alloc|apply IsS91.drewN|apply IsS91.drew|apply IsS91.set_1|refine IsS91.far ?_ NB0_169.out _|refine IsS91.far ?_ NB0_176.out _)|exact HI0.out));(case side2=>repeat (first|(with_reducible first|exact HB.out|apply below_alloc|apply pw_below_drewN|apply below_drew1|refine below_set ?_ (IsS91.ge HI0.out)|refine below_set ?_ GE169.out|refine below_set ?_ GE176.out)|exact HB.out));rintro e w52 ⟨rfl,hi,hb,hk⟩;refine ⟨_,rfl,?_⟩;have n0_:=Aside0.mk (KeepBut.blk hk (g':=gb169) (o:=.cells #[.bool false,.bool false,.int .i64 0,.int .i64 0,.int .i64 0,.slice none 0 0] 54 (0,0)) (by (with_reducible repeat (first|refine blk_drewN ?_ _|refine blk_drew ?_|refine blk_alloc ?_ _));refine blk_far ?_ NB169_176.out _;(with_reducible repeat (first|refine blk_drewN ?_ _|refine blk_drew ?_|refine blk_alloc ?_ _));exact BK169.out) NB169_0.out (by simp));have n1_:=Aside0.mk (Kd.N_mono (Kd.N_keep (Kd.N_mono (ok:=fun k_=>((((w.heap.size ≤ k_))∧(k_ ≠ gb169∧k_ ≠ g))∧k_ ≠ gb176)) (by (with_reducible repeat (first|apply Kd.N_alloc|apply Kd.N_drewN|apply Kd.N_drew));exact (Kd.N_mono (Kd.N_far (p:=⟨gb176,3,none⟩) (Kd.N_mono HO174.out (fun k_ hk=>(⟨hk,hk.2⟩ : _∧k_ ≠ gb176))) (fun _ hk=>hk.2) (.int .i64 t181)) (fun _ h_=>h_.1))) (fun k_ hk_=>(⟨hk_,hk_.1.2.2⟩ : _∧k_ ≠ g))) hk (fun _ h=>h.2)) (fun _ h=>h.1));have n2_:=Aside0.mk (KeepBut.blk hk (g':=gb176) (o:=.cells #[.bool (t170 == 0),.bool false,.int .i64 t179,.int .i64 t181,.int .i64 0,.slice Ao10 t172.length co10] 54 (0,0)) (by (with_reducible repeat (first|refine blk_drewN ?_ _|refine blk_drew ?_|refine blk_alloc ?_ _));refine blk_put (cs:=#[.bool (t170 == 0),.bool false,.int .i64 t179,.int .i64 0,.int .i64 0,.slice Ao10 t172.length co10]) ?_ 3 _ rfl;(with_reducible repeat (first|refine blk_drewN ?_ _|refine blk_drew ?_|refine blk_alloc ?_ _));exact BK176.out) NB176_0.out (by simp));have n3_:=Aside0.mk (KeepBut.trans (by repeat (first|(with_reducible first|exact HK.out|apply KeepBut.set_|apply keep_drewN|apply keep_drew|apply keep_alloc|refine keep_far ?_ GW169.out _|refine keep_far ?_ GW176.out _)|exact HK.out)) hk (.inl rfl));have n4_:=Aside0.mk (hb);have n5_:=Aside0.mk (hi);clear BK169;clear HO174;clear BK176;clear HK;clear HB;clear HI0;have BK169:=n0_;have HO174:=n1_;have BK176:=n2_;have HK:=n3_;have HB:=n4_;have HI0:=n5_;clear n0_ n1_ n2_ n3_ n4_ n5_;(try clear hb);(try clear hb2);(try clear hk);(try clear hi);have hcz53_0 : w52.cell? ⟨gb176,0,none⟩ = some (.bool (t170 == 0)):=(blk_cell BK176.out 0).trans rfl;have hcz53_1 : w52.cell? ⟨gb176,1,none⟩ = some (.bool false):=(blk_cell BK176.out 1).trans rfl;have hcz53_2 : w52.cell? ⟨gb176,2,none⟩ = some (.int .i64 t179):=(blk_cell BK176.out 2).trans rfl;have hcz53_3 : w52.cell? ⟨gb176,3,none⟩ = some (.int .i64 t181):=(blk_cell BK176.out 3).trans rfl;have hcz53_4 : w52.cell? ⟨gb176,4,none⟩ = some (.int .i64 0):=(blk_cell BK176.out 4).trans rfl;have hcz53_5 : w52.cell? ⟨gb176,5,none⟩ = some (.slice Ao10 t172.length co10):=(blk_cell BK176.out 5).trans rfl;have hfz53_0:=blk_frozen BK176.out 0;have hfz53_1:=blk_frozen BK176.out 1;have hfz53_2:=blk_frozen BK176.out 2;have hfz53_3:=blk_frozen BK176.out 3;have hfz53_4:=blk_frozen BK176.out 4;have hfz53_5:=blk_frozen BK176.out 5)|((with_reducible refine gate_callee (f:=65) rfl ?_);refine goesL_ (some 26) rfl rfl Try.func65 (by kernel_rfl) rfl #[.pointer (some ⟨g,0,none⟩),.int .i64 3] rfl (by (try simp only [List.map_toArray,List.map_cons,List.map_nil]);first|done|rfl|(simp only [List.length_drop,List.length_take];rfl)) ?_;(with_reducible refine (spec_l6Rd_pick.calls k g s0_0 t184 3 t185 t186 w0 _ ?side1 ?side2 A20.out).mono ?_);(case side1=>repeat (first|(with_reducible first|exact HI0.out|apply IsS91.alloc|apply IsS91.drewN|apply IsS91.drew|apply IsS91.set_1|refine IsS91.far ?_ NB0_169.out _|refine IsS91.far ?_ NB0_176.out _)|exact HI0.out));(case side2=>repeat (first|(with_reducible first|exact HB.out|apply below_alloc|apply pw_below_drewN|apply below_drew1|refine below_set ?_ (IsS91.ge HI0.out)|refine below_set ?_ GE169.out|refine below_set ?_ GE176.out)|exact HB.out));rintro e w54 ⟨rfl,hi,hb,hk⟩;refine ⟨_,rfl,?_⟩;have n0_:=Aside0.mk (KeepBut.blk hk (g':=gb169) (o:=.cells #[.bool false,.bool false,.int .i64 0,.int .i64 0,.int .i64 0,.slice none 0 0] 54 (0,0)) (by (with_reducible repeat (first|refine blk_drewN ?_ _|refine blk_drew ?_|refine blk_alloc ?_ _));refine blk_far ?_ NB169_176.out _;(with_reducible repeat (first|refine blk_drewN ?_ _|refine blk_drew ?_|refine blk_alloc ?_ _));exact BK169.out) NB169_0.out (by simp));have n1_:=Aside0.mk (Kd.N_mono (Kd.N_keep (Kd.N_mono (ok:=fun k_=>((((w.heap.size ≤ k_))∧(k_ ≠ gb169∧k_ ≠ g))∧k_ ≠ gb176)) (by (with_reducible repeat (first|apply Kd.N_alloc|apply Kd.N_drewN|apply Kd.N_drew));exact (Kd.N_mono (Kd.N_far (p:=⟨gb176,4,none⟩) (Kd.N_mono HO174.out (fun k_ hk=>(⟨hk,hk.2⟩ : _∧k_ ≠ gb176))) (fun _ hk=>hk.2) (.int .i64 t183)) (fun _ h_=>h_.1))) (fun k_ hk_=>(⟨hk_,hk_.1.2.2⟩ : _∧k_ ≠ g))) hk (fun _ h=>h.2)) (fun _ h=>h.1));have n2_:=Aside0.mk (KeepBut.blk hk (g':=gb176) (o:=.cells #[.bool (t170 == 0),.bool false,.int .i64 t179,.int .i64 t181,.int .i64 t183,.slice Ao10 t172.length co10] 54 (0,0)) (by (with_reducible repeat (first|refine blk_drewN ?_ _|refine blk_drew ?_|refine blk_alloc ?_ _));refine blk_put (cs:=#[.bool (t170 == 0),.bool false,.int .i64 t179,.int .i64 t181,.int .i64 0,.slice Ao10 t172.length co10]) ?_ 4 _ rfl;(with_reducible repeat (first|refine blk_drewN ?_ _|refine blk_drew ?_|refine blk_alloc ?_ _));exact BK176.out) NB176_0.out (by simp));have n3_:=Aside0.mk (KeepBut.trans (by repeat (first|(with_reducible first|exact HK.out|apply KeepBut.set_|apply keep_drewN|apply keep_drew|apply keep_alloc|refine keep_far ?_ GW169.out _|refine keep_far ?_ GW176.out _)|exact HK.out)) hk (.inl rfl));have n4_:=Aside0.mk (hb);have n5_:=Aside0.mk (hi);clear BK169;clear HO174;clear BK176;clear HK;clear HB;clear HI0;have BK169:=n0_;have HO174:=n1_;have BK176:=n2_;have HK:=n3_;have HB:=n4_;have HI0:=n5_;clear n0_ n1_ n2_ n3_ n4_ n5_;(try clear hb);(try clear hb2);(try clear hk);(try clear hi)))
    go_meet
    case rel=>exact ⟨_,(t186),(false),(t179),(t181),(t183),(t172),(.slice Ao10 t172.length co10),H',⟨by first|omega|exact Nat.le_refl _⟩,⟨by (with_reducible repeat (first|apply Kd.N_alloc|apply Kd.N_drewN|apply Kd.N_drew));exact Kd.N_mono HO174.out (fun _ hk=>⟨hk.1.1,⟨hk.1.2.1,⟨hk.2,hk.1.2.2⟩⟩⟩)⟩,⟨by (with_reducible repeat (first|refine blk_drewN ?_ _|refine blk_drew ?_|refine blk_alloc ?_ _));exact BK169.out⟩,⟨by (with_reducible repeat (first|refine blk_drewN ?_ _|refine blk_drew ?_|refine blk_alloc ?_ _));exact BK176.out⟩,⟨by repeat (first|(with_reducible first|exact HI0.out|apply IsS91.alloc|apply IsS91.drewN|apply IsS91.drew|apply IsS91.set_1|refine IsS91.far ?_ NB0_169.out _|refine IsS91.far ?_ NB0_176.out _)|exact HI0.out)⟩,⟨by repeat (first|(with_reducible first|exact HK.out|apply KeepBut.set_|apply keep_drewN|apply keep_drew|apply keep_alloc|refine keep_far ?_ GW169.out _|refine keep_far ?_ GW176.out _)|exact HK.out)⟩,⟨by repeat (first|(with_reducible first|exact HB.out|apply below_alloc|apply pw_below_drewN|apply below_drew1|refine below_set ?_ (IsS91.ge HI0.out)|refine below_set ?_ GE169.out|refine below_set ?_ GE176.out)|exact HB.out)⟩⟩
  ·rw [if_neg c16] at H
   have c16b0 : (t177 == 0)=false:=beq_eq_false_iff_ne.mpr c16
   have c16b1 : (t177 != 0)=true:=bne_iff_ne.mpr c16
   (first|rw [c16b0]|(simp only [i64_w,i32_w];rw [c16b0])|skip)
   have H':=Aside0.mk H
   clear H
   go_wp2
   go_meet
   case rel=>exact ⟨_,(t178),(false),(255),(0),(0),(t172),(.slice Ao10 t172.length co10),H',⟨by first|omega|exact Nat.le_refl _⟩,⟨by (with_reducible repeat (first|apply Kd.N_alloc|apply Kd.N_drewN|apply Kd.N_drew));exact Kd.N_mono HO174.out (fun _ hk=>⟨hk.1.1,⟨hk.1.2.1,⟨hk.2,hk.1.2.2⟩⟩⟩)⟩,⟨by (with_reducible repeat (first|refine blk_drewN ?_ _|refine blk_drew ?_|refine blk_alloc ?_ _));exact BK169.out⟩,⟨by (with_reducible repeat (first|refine blk_drewN ?_ _|refine blk_drew ?_|refine blk_alloc ?_ _));exact BK176.out⟩,⟨by repeat (first|(with_reducible first|exact HI0.out|apply IsS91.alloc|apply IsS91.drewN|apply IsS91.drew|apply IsS91.set_1|refine IsS91.far ?_ NB0_169.out _|refine IsS91.far ?_ NB0_176.out _)|exact HI0.out)⟩,⟨by repeat (first|(with_reducible first|exact HK.out|apply KeepBut.set_|apply keep_drewN|apply keep_drew|apply keep_alloc|refine keep_far ?_ GW169.out _|refine keep_far ?_ GW176.out _)|exact HK.out)⟩,⟨by repeat (first|(with_reducible first|exact HB.out|apply below_alloc|apply pw_below_drewN|apply below_drew1|refine below_set ?_ (IsS91.ge HI0.out)|refine below_set ?_ GE169.out|refine below_set ?_ GE176.out)|exact HB.out)⟩⟩
 case rest =>
  clear HC6
  try clear c1
  try clear c2
  try clear p2
  try clear c4
  try clear c6
  try clear c7
  try clear c9
  try clear c12
  try clear c13
  try clear c16
  try clear c16b0
  try clear c16b1
  try clear c21
  try clear c21b0
  try clear c21b1
  try clear c25
  try clear c26
  try clear c47
  try clear c48
  try clear hcz14_0
  try clear hcz14_1
  try clear hcz14_2
  try clear hcz14_3
  try clear hcz14_4
  try clear hcz14_5
  try clear hcz27_0
  try clear hcz27_1
  try clear hcz27_2
  try clear hcz27_3
  try clear hcz27_4
  try clear hcz27_5
  try clear hcz29_0
  try clear hcz29_1
  try clear hcz29_2
  try clear hcz29_3
  try clear hcz29_4
  try clear hcz29_5
  try clear hcz31_0
  try clear hcz31_1
  try clear hcz31_2
  try clear hcz31_3
  try clear hcz31_4
  try clear hcz31_5
  try clear hcz33_0
  try clear hcz33_1
  try clear hcz33_2
  try clear hcz33_3
  try clear hcz33_4
  try clear hcz33_5
  try clear hcz45_0
  try clear hcz45_1
  try clear hcz45_2
  try clear hcz45_3
  try clear hcz45_4
  try clear hcz45_5
  try clear hcz49_0
  try clear hcz49_1
  try clear hcz49_2
  try clear hcz49_3
  try clear hcz49_4
  try clear hcz49_5
  try clear hcz51_0
  try clear hcz51_1
  try clear hcz51_2
  try clear hcz51_3
  try clear hcz51_4
  try clear hcz51_5
  try clear hcz53_0
  try clear hcz53_1
  try clear hcz53_2
  try clear hcz53_3
  try clear hcz53_4
  try clear hcz53_5
  try clear hfz14_0
  try clear hfz14_1
  try clear hfz14_2
  try clear hfz14_3
  try clear hfz14_4
  try clear hfz14_5
  try clear hfz27_0
  try clear hfz27_1
  try clear hfz27_2
  try clear hfz27_3
  try clear hfz27_4
  try clear hfz27_5
  try clear hfz29_0
  try clear hfz29_1
  try clear hfz29_2
  try clear hfz29_3
  try clear hfz29_4
  try clear hfz29_5
  try clear hfz31_0
  try clear hfz31_1
  try clear hfz31_2
  try clear hfz31_3
  try clear hfz31_4
  try clear hfz31_5
  try clear hfz33_0
  try clear hfz33_1
  try clear hfz33_2
  try clear hfz33_3
  try clear hfz33_4
  try clear hfz33_5
  try clear hfz45_0
  try clear hfz45_1
  try clear hfz45_2
  try clear hfz45_3
  try clear hfz45_4
  try clear hfz45_5
  try clear hfz49_0
  try clear hfz49_1
  try clear hfz49_2
  try clear hfz49_3
  try clear hfz49_4
  try clear hfz49_5
  try clear hfz51_0
  try clear hfz51_1
  try clear hfz51_2
  try clear hfz51_3
  try clear hfz51_4
  try clear hfz51_5
  try clear hfz53_0
  try clear hfz53_1
  try clear hfz53_2
  try clear hfz53_3
  try clear hfz53_4
  try clear hfz53_5
  obtain ⟨kq,x1001_5,x177001_5,x177002_5,x177003_5,x177004_5,x177005_5,u177005,HA,HJ5,HO_177005,BK169,BK176,HI0,HK,HB⟩:=hcut
  cases kq with
  | zero=>exact absurd HA.out (by simp [spec_l91Batch.j0])
  | succ kj5 =>
   have H:=HA.out
   clear HA
   simp only [spec_l91Batch.j0] at H
   replace H:=Option.bind_eq_some_iff.mp H
   obtain ⟨⟨t200,t201⟩,A550,H⟩:=H
   replace H : (if t200=0 then ((some (([(-1),1,100] : List Int) : List Int)).bind fun y202=>((spec_l6Rd_pick.f kj5 s0_0 t201 3).bind fun bt205=>(if 0 ≤ bt205.1 then (if bt205.1 < (y202.length : Int) then (some ((t170 == 0),x177001_5,x177002_5,rd y202 bt205.1,x177004_5,x177005_5,bt205.2)) else (none)) else (none)))) else (if t200=1 then (if 0 < (x177005_5.length : Int) then (if x177005_5.length < 1759218604441 then (some ((t170 == 0),x177001_5,x177002_5,x177003_5,x177004_5,(x177005_5 ++ [(⟨(rd_T27 x177005_5 0).f0,(rd_T27 x177005_5 0).f1,(rd_T27 x177005_5 0).f2,(rd_T27 x177005_5 0).f3,(rd_T27 x177005_5 0).f4,(rd_T27 x177005_5 0).f5⟩ : S27)]),t201)) else (none)) else (none)) else (if t200=2 then (some ((t170 == 0), !x177001_5,x177002_5,x177003_5,x177004_5,x177005_5,t201)) else (some ((t170 == 0),x177001_5,x177002_5,x177003_5,x177004_5,x177005_5,t201)))))=some (r1,r2,r3,r4,r5,r6,r7):=H
   have A55:=Aside0.mk A550
   clear A550
   by_cases c56 : t200=0
   ·rw [if_pos c56] at H
    have c56b0 : (t200 == 0)=true:=beq_iff_eq.mpr c56
    have c56b1 : (t200 != 0)=false:=bne_eq_false_iff_eq.mpr c56
    clear c56
    obtain ⟨y202,hy202⟩ : ∃ y_ : List Int,y_=(([(-1),1,100] : List Int)):=⟨_,rfl⟩
    replace H : ((spec_l6Rd_pick.f kj5 s0_0 t201 3).bind fun bt205=>(if 0 ≤ bt205.1 then (if bt205.1 < (y202.length : Int) then (some ((t170 == 0),x177001_5,x177002_5,rd y202 bt205.1,x177004_5,x177005_5,bt205.2)) else (none)) else (none)))=some (r1,r2,r3,r4,r5,r6,r7):=by first|(rw [hy202];with_reducible exact H)|(have H2_:=(Option.bind_some _ _).symm.trans H;rw [hy202];with_reducible exact H2_)|(have H2_:=(Option.bind_some _ _).symm.trans H;with_reducible exact H2_)|with_reducible exact H|(rw [hy202];exact H)|exact H
    have Ny202:=Aside0.mk hy202
    clear hy202
    replace H:=Option.bind_eq_some_iff.mp H
    obtain ⟨⟨t205,t206⟩,A570,H⟩:=H
    replace H : (if 0 ≤ t205 then (if t205 < (y202.length : Int) then (some ((t170 == 0),x177001_5,x177002_5,rd y202 t205,x177004_5,x177005_5,t206)) else (none)) else (none))=some (r1,r2,r3,r4,r5,r6,r7):=H
    have A57:=Aside0.mk A570
    clear A570
    by_cases c58 : 0 ≤ t205
    ·rw [if_pos c58] at H
     have c58b0 : decide (0 ≤ t205)=true:=decide_eq_true c58
     clear c58
     by_cases c59 : t205 < (y202.length : Int)
     ·rw [if_pos c59] at H
      have c59b0 : decide (t205 < (y202.length : Int))=true:=decide_eq_true c59
      clear c59
      simp only [Option.some.injEq,Prod.mk.injEq] at H
      obtain ⟨rfl,rfl,rfl,rfl,rfl,rfl,rfl⟩:=H
      go_wp2_with (first|((with_reducible refine gate_callee (f:=65) rfl ?_);refine goesL_ (some 40) rfl rfl Try.func65 (by kernel_rfl) rfl #[.pointer (some ⟨g,0,none⟩),.int .i64 40] rfl (by (try simp only [List.map_toArray,List.map_cons,List.map_nil]);first|done|rfl|(simp only [List.length_drop,List.length_take];rfl)) ?_;(with_reducible refine (spec_l6Rd_pick.calls kj5 g s0_0 x1001_5 40 t200 t201 w0 _ ?side1 ?side2 A55.out).mono ?_);(case side1=>repeat (first|(with_reducible first|exact HI0.out|apply IsS91.alloc|apply IsS91.drewN|apply IsS91.drew|apply IsS91.set_1|refine IsS91.far ?_ NB0_169.out _|refine IsS91.far ?_ NB0_176.out _)|exact HI0.out));(case side2=>repeat (first|(with_reducible first|exact HB.out|apply below_alloc|apply pw_below_drewN|apply below_drew1|refine below_set ?_ (IsS91.ge HI0.out)|refine below_set ?_ GE169.out|refine below_set ?_ GE176.out)|exact HB.out));rintro e w60 ⟨rfl,hi,hb,hk⟩;refine ⟨_,rfl,?_⟩;have n0_:=Aside0.mk (Kd.N_mono (Kd.N_keep (Kd.N_mono (ok:=fun k_=>(((w.heap.size ≤ k_))∧(k_ ≠ gb169∧(k_ ≠ gb176∧k_ ≠ g)))) (by (with_reducible repeat (first|apply Kd.N_alloc|apply Kd.N_drewN|apply Kd.N_drew));exact HO_177005.out) (fun k_ hk_=>(⟨hk_,hk_.2.2.2⟩ : _∧k_ ≠ g))) hk (fun _ h=>h.2)) (fun _ h=>h.1));have n1_:=Aside0.mk (KeepBut.blk hk (g':=gb169) (o:=.cells #[.bool false,.bool false,.int .i64 0,.int .i64 0,.int .i64 0,.slice none 0 0] 54 (0,0)) (by (with_reducible repeat (first|refine blk_drewN ?_ _|refine blk_drew ?_|refine blk_alloc ?_ _));exact BK169.out) NB169_0.out (by simp));have n2_:=Aside0.mk (KeepBut.blk hk (g':=gb176) (o:=.cells #[.bool (t170 == 0),.bool x177001_5,.int .i64 x177002_5,.int .i64 x177003_5,.int .i64 x177004_5,u177005] 54 (0,0)) (by (with_reducible repeat (first|refine blk_drewN ?_ _|refine blk_drew ?_|refine blk_alloc ?_ _));exact BK176.out) NB176_0.out (by simp));have n3_:=Aside0.mk (KeepBut.trans (by repeat (first|(with_reducible first|exact HK.out|apply KeepBut.set_|apply keep_drewN|apply keep_drew|apply keep_alloc|refine keep_far ?_ GW169.out _|refine keep_far ?_ GW176.out _)|exact HK.out)) hk (.inl rfl));have n4_:=Aside0.mk (hb);have n5_:=Aside0.mk (hi);clear HO_177005;clear BK169;clear BK176;clear HK;clear HB;clear HI0;have HO_177005:=n0_;have BK169:=n1_;have BK176:=n2_;have HK:=n3_;have HB:=n4_;have HI0:=n5_;clear n0_ n1_ n2_ n3_ n4_ n5_;(try clear hb);(try clear hb2);(try clear hk);(try clear hi))|((with_reducible refine gate_dst (N:=43) rfl ?_);refine Kd.R_lit (Kd.int .i64) _ 3 ?hg (N:=43) ?hd (xs:=([(-1),1,100] : List Int)) (inner:=[.int .i64 (-1),.int .i64 1,.int .i64 100]) (ok:=fun _=>True) (okp:=fun _=>True) ?hr ?hp (fun _ hk=>hk) trivial (Below.refl _ _) (Nat.le_refl _) (by simp) ?_;(case hd=>rfl);(case hg=>rfl);(case hr=>first|(go_simp;done)|(go_simp;rfl));(case hp=>exact (Reps.one (show Kd.M (Kd.int .i64) _ _ _ (-1) [.int .i64 (-1)] from rfl) (Reps.one (show Kd.M (Kd.int .i64) _ _ _ 1 [.int .i64 1] from rfl) (Reps.one (show Kd.M (Kd.int .i64) _ _ _ 100 [.int .i64 100] from rfl) (Reps.none _ _)))));intro v203 w61 ho62 hb hg_ hnew_;clear hg_ hnew_;(first|rw [← Ny202.out] at ho62|(simp only [Int.reduceToNat] at ho62;rw [← Ny202.out] at ho62));have n0_:=Aside0.mk (Kd.N_elder' (by (with_reducible repeat (first|apply Kd.N_alloc|apply Kd.N_drewN|apply Kd.N_drew));exact HO_177005.out) (Kd.R_base ho62) hb);have n1_:=Aside0.mk (Kd.R_lower (Kd.R_newM (M:=fun k_=>(w.heap.size ≤ k_)) ho62 (keep_size (w:=w) (g:=g) (row:=none) (by repeat (first|(with_reducible first|exact HK.out|apply KeepBut.set_|apply keep_drewN|apply keep_drew|apply keep_alloc|refine keep_far ?_ GW169.out _|refine keep_far ?_ GW176.out _)|exact HK.out))) (fun k_ h_=>h_)) (keep_size (w:=w) (g:=g) (row:=none) (by repeat (first|(with_reducible first|exact HK.out|apply KeepBut.set_|apply keep_drewN|apply keep_drew|apply keep_alloc|refine keep_far ?_ GW169.out _|refine keep_far ?_ GW176.out _)|exact HK.out))));have n2_:=Aside0.mk (blk_below (g:=gb169) (o:=.cells #[.bool false,.bool false,.int .i64 0,.int .i64 0,.int .i64 0,.slice none 0 0] 54 (0,0)) (by (with_reducible repeat (first|refine blk_drewN ?_ _|refine blk_drew ?_|refine blk_alloc ?_ _));exact BK169.out) hb);have n3_:=Aside0.mk (blk_below (g:=gb176) (o:=.cells #[.bool (t170 == 0),.bool x177001_5,.int .i64 x177002_5,.int .i64 x177003_5,.int .i64 x177004_5,u177005] 54 (0,0)) (by (with_reducible repeat (first|refine blk_drewN ?_ _|refine blk_drew ?_|refine blk_alloc ?_ _));exact BK176.out) hb);have n4_:=Aside0.mk (IsS91.below (by repeat (first|(with_reducible first|exact HI0.out|apply IsS91.alloc|apply IsS91.drewN|apply IsS91.drew|apply IsS91.set_1|refine IsS91.far ?_ NB0_169.out _|refine IsS91.far ?_ NB0_176.out _)|exact HI0.out)) hb);have n5_:=Aside0.mk (KeepBut.trans (by repeat (first|(with_reducible first|exact HK.out|apply KeepBut.set_|apply keep_drewN|apply keep_drew|apply keep_alloc|refine keep_far ?_ GW169.out _|refine keep_far ?_ GW176.out _)|exact HK.out)) (KeepBut.of_below hb g none) (.inl rfl));have n6_:=Aside0.mk (below_step (by repeat (first|(with_reducible first|exact HB.out|apply below_alloc|apply pw_below_drewN|apply below_drew1|refine below_set ?_ (IsS91.ge HI0.out)|refine below_set ?_ GE169.out|refine below_set ?_ GE176.out)|exact HB.out)) hb);clear HO_177005;clear BK169;clear BK176;clear HI0;clear HK;clear HB;have HO_177005:=n0_;have HO204:=n1_;have BK169:=n2_;have BK176:=n3_;have HI0:=n4_;have HK:=n5_;have HB:=n6_;clear n0_ n1_ n2_ n3_ n4_ n5_ n6_;clear hb ho62)|((with_reducible refine gate_callee (f:=65) rfl ?_);refine goesL_ (some 45) rfl rfl Try.func65 (by kernel_rfl) rfl #[.pointer (some ⟨g,0,none⟩),.int .i64 3] rfl (by (try simp only [List.map_toArray,List.map_cons,List.map_nil]);first|done|rfl|(simp only [List.length_drop,List.length_take];rfl)) ?_;(with_reducible refine (spec_l6Rd_pick.calls kj5 g s0_0 t201 3 t205 t206 w0 _ ?side1 ?side2 A57.out).mono ?_);(case side1=>repeat (first|(with_reducible first|exact HI0.out|apply IsS91.alloc|apply IsS91.drewN|apply IsS91.drew|apply IsS91.set_1|refine IsS91.far ?_ NB0_169.out _|refine IsS91.far ?_ NB0_176.out _)|exact HI0.out));(case side2=>repeat (first|(with_reducible first|exact HB.out|apply below_alloc|apply pw_below_drewN|apply below_drew1|refine below_set ?_ (IsS91.ge HI0.out)|refine below_set ?_ GE169.out|refine below_set ?_ GE176.out)|exact HB.out));rintro e w63 ⟨rfl,hi,hb,hk⟩;refine ⟨_,rfl,?_⟩;have n0_:=Aside0.mk (Kd.N_mono (Kd.N_keep (Kd.N_mono (ok:=fun k_=>((((w.heap.size ≤ k_))∧(k_ ≠ gb169∧(k_ ≠ gb176∧k_ ≠ g)))∧some k_ ≠ (v203 : Value).ownBlock)) (by (with_reducible repeat (first|apply Kd.N_alloc|apply Kd.N_drewN|apply Kd.N_drew));exact HO_177005.out) (fun k_ hk_=>(⟨hk_,hk_.1.2.2.2⟩ : _∧k_ ≠ g))) hk (fun _ h=>h.2)) (fun _ h=>h.1));have n1_:=Aside0.mk (KeepBut.blk hk (g':=gb169) (o:=.cells #[.bool false,.bool false,.int .i64 0,.int .i64 0,.int .i64 0,.slice none 0 0] 54 (0,0)) (by (with_reducible repeat (first|refine blk_drewN ?_ _|refine blk_drew ?_|refine blk_alloc ?_ _));exact BK169.out) NB169_0.out (by simp));have n2_:=Aside0.mk (KeepBut.blk hk (g':=gb176) (o:=.cells #[.bool (t170 == 0),.bool x177001_5,.int .i64 x177002_5,.int .i64 x177003_5,.int .i64 x177004_5,u177005] 54 (0,0)) (by (with_reducible repeat (first|refine blk_drewN ?_ _|refine blk_drew ?_|refine blk_alloc ?_ _));exact BK176.out) NB176_0.out (by simp));have n3_:=Aside0.mk (Kd.R_mono (Kd.R_keep (IsS91.apart (show IsS91 w0 _ g s0_0 t201 from by repeat (first|(with_reducible first|exact HI0.out|apply IsS91.alloc|apply IsS91.drewN|apply IsS91.drew|apply IsS91.set_1|refine IsS91.far ?_ NB0_169.out _|refine IsS91.far ?_ NB0_176.out _)|exact HI0.out)) (by (with_reducible repeat (first|apply Kd.R_alloc|apply Kd.R_drewN|apply Kd.R_drew));exact HO204.out) (by decide)) hk (fun _ h=>h.2)) (fun _ h=>h.1));have n4_:=Aside0.mk (KeepBut.trans (by repeat (first|(with_reducible first|exact HK.out|apply KeepBut.set_|apply keep_drewN|apply keep_drew|apply keep_alloc|refine keep_far ?_ GW169.out _|refine keep_far ?_ GW176.out _)|exact HK.out)) hk (.inl rfl));have n5_:=Aside0.mk (hb);have n6_:=Aside0.mk (hi);clear HO_177005;clear BK169;clear BK176;clear HO204;clear HK;clear HB;clear HI0;have HO_177005:=n0_;have BK169:=n1_;have BK176:=n2_;have HO204:=n3_;have HK:=n4_;have HB:=n5_;have HI0:=n6_;clear n0_ n1_ n2_ n3_ n4_ n5_ n6_;(try clear hb);(try clear hb2);(try clear hk);(try clear hi);obtain ⟨Ao64,co64,eo64⟩:=Kd.R_slice HO204.out;subst eo64;have p207 : 0 ≤ (t205 : Int):=of_decide_eq_true (by first|(with_reducible assumption)|assumption);have q207 : t205 < (y202.length : Int):=of_decide_eq_true (by first|(with_reducible assumption)|assumption);obtain ⟨ad207,e207,hx207_0⟩:=Kd.at_int (Kd.R_reads' HO204.out).2.2 t205 p207 q207;cases e207;replace p207:=eq_true p207;replace q207:=eq_true q207;have hnb65:=NB176_169.out;have hnc65:=NB169_176.out;have hnb66:=NB176_0.out;have hnc66:=NB0_176.out;have hcz67_0 : w63.cell? ⟨gb176,0,none⟩ = some (.bool (t170 == 0)):=(blk_cell BK176.out 0).trans rfl;have hcz67_1 : w63.cell? ⟨gb176,1,none⟩ = some (.bool x177001_5):=(blk_cell BK176.out 1).trans rfl;have hcz67_2 : w63.cell? ⟨gb176,2,none⟩ = some (.int .i64 x177002_5):=(blk_cell BK176.out 2).trans rfl;have hcz67_3 : w63.cell? ⟨gb176,3,none⟩ = some (.int .i64 x177003_5):=(blk_cell BK176.out 3).trans rfl;have hcz67_4 : w63.cell? ⟨gb176,4,none⟩ = some (.int .i64 x177004_5):=(blk_cell BK176.out 4).trans rfl;have hcz67_5 : w63.cell? ⟨gb176,5,none⟩ = some (u177005):=(blk_cell BK176.out 5).trans rfl;have hfz67_0:=blk_frozen BK176.out 0;have hfz67_1:=blk_frozen BK176.out 1;have hfz67_2:=blk_frozen BK176.out 2;have hfz67_3:=blk_frozen BK176.out 3;have hfz67_4:=blk_frozen BK176.out 4;have hfz67_5:=blk_frozen BK176.out 5;have hnb68:=NB169_0.out;have hnc68:=NB0_169.out;have hcz69_0 : w63.cell? ⟨gb169,0,none⟩ = some (.bool false):=(blk_cell BK169.out 0).trans rfl;have hcz69_1 : w63.cell? ⟨gb169,1,none⟩ = some (.bool false):=(blk_cell BK169.out 1).trans rfl;have hcz69_2 : w63.cell? ⟨gb169,2,none⟩ = some (.int .i64 0):=(blk_cell BK169.out 2).trans rfl;have hcz69_3 : w63.cell? ⟨gb169,3,none⟩ = some (.int .i64 0):=(blk_cell BK169.out 3).trans rfl;have hcz69_4 : w63.cell? ⟨gb169,4,none⟩ = some (.int .i64 0):=(blk_cell BK169.out 4).trans rfl;have hcz69_5 : w63.cell? ⟨gb169,5,none⟩ = some (.slice none 0 0):=(blk_cell BK169.out 5).trans rfl;have hfz69_0:=blk_frozen BK169.out 0;have hfz69_1:=blk_frozen BK169.out 1;have hfz69_2:=blk_frozen BK169.out 2;have hfz69_3:=blk_frozen BK169.out 3;have hfz69_4:=blk_frozen BK169.out 4;have hfz69_5:=blk_frozen BK169.out 5;obtain ⟨Ao70,co70,eo70⟩:=Kd.N_slice HO_177005.out;subst eo70))
      refine bodyPost_ret (results_cell_row rfl _ _ gb169 54 #[.bool (t170 == 0),.bool x177001_5,.int .i64 x177002_5,.int .i64 (rd y202 t205),.int .i64 x177004_5,.slice Ao70 x177005_5.length co70] (0,0) _ rfl (by (with_reducible repeat (first|refine blk_drewN ?_ _|refine blk_drew ?_|refine blk_alloc ?_ _));refine blk_put (cs:=#[.bool (t170 == 0),.bool x177001_5,.int .i64 x177002_5,.int .i64 (rd y202 t205),.int .i64 x177004_5,.slice none 0 0]) ?_ 5 _ rfl;(with_reducible repeat (first|refine blk_drewN ?_ _|refine blk_drew ?_|refine blk_alloc ?_ _));refine blk_put (cs:=#[.bool (t170 == 0),.bool x177001_5,.int .i64 x177002_5,.int .i64 (rd y202 t205),.int .i64 0,.slice none 0 0]) ?_ 4 _ rfl;(with_reducible repeat (first|refine blk_drewN ?_ _|refine blk_drew ?_|refine blk_alloc ?_ _));refine blk_put (cs:=#[.bool (t170 == 0),.bool x177001_5,.int .i64 x177002_5,.int .i64 0,.int .i64 0,.slice none 0 0]) ?_ 3 _ rfl;(with_reducible repeat (first|refine blk_drewN ?_ _|refine blk_drew ?_|refine blk_alloc ?_ _));refine blk_put (cs:=#[.bool (t170 == 0),.bool x177001_5,.int .i64 0,.int .i64 0,.int .i64 0,.slice none 0 0]) ?_ 2 _ rfl;(with_reducible repeat (first|refine blk_drewN ?_ _|refine blk_drew ?_|refine blk_alloc ?_ _));refine blk_put (cs:=#[.bool (t170 == 0),.bool false,.int .i64 0,.int .i64 0,.int .i64 0,.slice none 0 0]) ?_ 1 _ rfl;(with_reducible repeat (first|refine blk_drewN ?_ _|refine blk_drew ?_|refine blk_alloc ?_ _));refine blk_put (cs:=#[.bool false,.bool false,.int .i64 0,.int .i64 0,.int .i64 0,.slice none 0 0]) ?_ 0 _ rfl;(with_reducible repeat (first|refine blk_drewN ?_ _|refine blk_drew ?_|refine blk_alloc ?_ _));refine blk_far ?_ NB169_176.out _;(with_reducible repeat (first|refine blk_drewN ?_ _|refine blk_drew ?_|refine blk_alloc ?_ _));exact BK169.out) Try.underlying54 rfl (by kernel_rfl)) rfl ?_
      exact ⟨_,by first|rfl|(simp [errW_none,errW_some] <;> rfl)|(simp [*,errW_none,errW_some] <;> rfl),by (with_reducible repeat (first|apply Kd.N_alloc|apply Kd.N_drewN|apply Kd.N_drew));exact Kd.N_mono (Kd.N_far (p:=⟨gb169,5,none⟩) (Kd.N_far (p:=⟨gb169,4,none⟩) (Kd.N_far (p:=⟨gb169,3,none⟩) (Kd.N_far (p:=⟨gb169,2,none⟩) (Kd.N_far (p:=⟨gb169,1,none⟩) (Kd.N_far (p:=⟨gb169,0,none⟩) (Kd.N_far (p:=⟨gb176,3,none⟩) (Kd.N_mono (Kd.N_mono HO_177005.out (fun k_ hk=>(⟨hk,hk.1.2.2.1⟩ : _∧k_ ≠ gb176))) (fun k_ hk=>(⟨hk,hk.1.1.2.1⟩ : _∧k_ ≠ gb169))) (fun _ hk=>hk.1.2) (.int .i64 (rd y202 t205))) (fun _ hk=>hk.2) (.bool (t170 == 0))) (fun _ hk=>hk.2) (.bool x177001_5)) (fun _ hk=>hk.2) (.int .i64 x177002_5)) (fun _ hk=>hk.2) (.int .i64 (rd y202 t205))) (fun _ hk=>hk.2) (.int .i64 x177004_5)) (fun _ hk=>hk.2) (.slice Ao70 x177005_5.length co70)) (fun _ hk=>hk.1.1.1.1),by repeat (first|(with_reducible first|exact HI0.out|apply IsS91.alloc|apply IsS91.drewN|apply IsS91.drew|apply IsS91.set_1|refine IsS91.far ?_ NB0_169.out _|refine IsS91.far ?_ NB0_176.out _)|exact HI0.out),by repeat (first|(with_reducible first|exact HB.out|apply below_alloc|apply pw_below_drewN|apply below_drew1|refine below_set ?_ (IsS91.ge HI0.out)|refine below_set ?_ GE169.out|refine below_set ?_ GE176.out)|exact HB.out),by repeat (first|(with_reducible first|exact HK.out|apply KeepBut.set_|apply keep_drewN|apply keep_drew|apply keep_alloc|refine keep_far ?_ GW169.out _|refine keep_far ?_ GW176.out _)|exact HK.out)⟩
     ·rw [if_neg c59] at H
      exact absurd H (by simp)
    ·rw [if_neg c58] at H
     exact absurd H (by simp)
   ·rw [if_neg c56] at H
    have c56b0 : (t200 == 0)=false:=beq_eq_false_iff_ne.mpr c56
    have c56b1 : (t200 != 0)=true:=bne_iff_ne.mpr c56
    by_cases c71 : t200=1
    ·rw [if_pos c71] at H
     have c71b0 : (t200 == 1)=true:=beq_iff_eq.mpr c71
     have c71b1 : (t200 != 1)=false:=bne_eq_false_iff_eq.mpr c71
     clear c71
     by_cases c72 : 0 < (x177005_5.length : Int)
     ·rw [if_pos c72] at H
      have c72b0 : decide (0 < (x177005_5.length : Int))=true:=decide_eq_true c72
      have c72b1 : decide (0 < x177005_5.length)=true:=decide_eq_true (by omega)
      clear c72
      by_cases c73 : x177005_5.length < 1759218604441
      ·rw [if_pos c73] at H
       have LMc73:=Aside0.mk c73
       clear c73
       obtain ⟨y209,hy209⟩ : ∃ y_ : List (S27),y_=(x177005_5 ++ [(⟨(rd_T27 x177005_5 0).f0,(rd_T27 x177005_5 0).f1,(rd_T27 x177005_5 0).f2,(rd_T27 x177005_5 0).f3,(rd_T27 x177005_5 0).f4,(rd_T27 x177005_5 0).f5⟩ : S27)]):=⟨_,rfl⟩
       replace H : (some ((t170 == 0),x177001_5,x177002_5,x177003_5,x177004_5,y209,t201))=some (r1,r2,r3,r4,r5,r6,r7):=by first|(rw [hy209];with_reducible exact H)|(have H2_:=(Option.bind_some _ _).symm.trans H;rw [hy209];with_reducible exact H2_)|(have H2_:=(Option.bind_some _ _).symm.trans H;with_reducible exact H2_)|with_reducible exact H|(rw [hy209];exact H)|exact H
       have Ny209:=Aside0.mk hy209
       clear hy209
       simp only [Option.some.injEq,Prod.mk.injEq] at H
       obtain ⟨rfl,rfl,rfl,rfl,rfl,rfl,rfl⟩:=H
       try go_wp2_with (first|((with_reducible refine gate_callee (f:=65) rfl ?_);refine goesL_ (some 40) rfl rfl Try.func65 (by kernel_rfl) rfl #[.pointer (some ⟨g,0,none⟩),.int .i64 40] rfl (by (try simp only [List.map_toArray,List.map_cons,List.map_nil]);first|done|rfl|(simp only [List.length_drop,List.length_take];rfl)) ?_;(with_reducible refine (spec_l6Rd_pick.calls kj5 g s0_0 x1001_5 40 t200 t201 w0 _ ?side1 ?side2 A55.out).mono ?_);(case side1=>repeat (first|(with_reducible first|exact HI0.out|apply IsS91.alloc|apply IsS91.drewN|apply IsS91.drew|apply IsS91.set_1|refine IsS91.far ?_ NB0_169.out _|refine IsS91.far ?_ NB0_176.out _)|exact HI0.out));(case side2=>repeat (first|(with_reducible first|exact HB.out|apply below_alloc|apply pw_below_drewN|apply below_drew1|refine below_set ?_ (IsS91.ge HI0.out)|refine below_set ?_ GE169.out|refine below_set ?_ GE176.out)|exact HB.out));rintro e w74 ⟨rfl,hi,hb,hk⟩;refine ⟨_,rfl,?_⟩;have n0_:=Aside0.mk (Kd.N_mono (Kd.N_keep (Kd.N_mono (ok:=fun k_=>(((w.heap.size ≤ k_))∧(k_ ≠ gb169∧(k_ ≠ gb176∧k_ ≠ g)))) (by (with_reducible repeat (first|apply Kd.N_alloc|apply Kd.N_drewN|apply Kd.N_drew));exact HO_177005.out) (fun k_ hk_=>(⟨hk_,hk_.2.2.2⟩ : _∧k_ ≠ g))) hk (fun _ h=>h.2)) (fun _ h=>h.1));have n1_:=Aside0.mk (KeepBut.blk hk (g':=gb169) (o:=.cells #[.bool false,.bool false,.int .i64 0,.int .i64 0,.int .i64 0,.slice none 0 0] 54 (0,0)) (by (with_reducible repeat (first|refine blk_drewN ?_ _|refine blk_drew ?_|refine blk_alloc ?_ _));exact BK169.out) NB169_0.out (by simp));have n2_:=Aside0.mk (KeepBut.blk hk (g':=gb176) (o:=.cells #[.bool (t170 == 0),.bool x177001_5,.int .i64 x177002_5,.int .i64 x177003_5,.int .i64 x177004_5,u177005] 54 (0,0)) (by (with_reducible repeat (first|refine blk_drewN ?_ _|refine blk_drew ?_|refine blk_alloc ?_ _));exact BK176.out) NB176_0.out (by simp));have n3_:=Aside0.mk (KeepBut.trans (by repeat (first|(with_reducible first|exact HK.out|apply KeepBut.set_|apply keep_drewN|apply keep_drew|apply keep_alloc|refine keep_far ?_ GW169.out _|refine keep_far ?_ GW176.out _)|exact HK.out)) hk (.inl rfl));have n4_:=Aside0.mk (hb);have n5_:=Aside0.mk (hi);clear HO_177005;clear BK169;clear BK176;clear HK;clear HB;clear HI0;have HO_177005:=n0_;have BK169:=n1_;have BK176:=n2_;have HK:=n3_;have HB:=n4_;have HI0:=n5_;clear n0_ n1_ n2_ n3_ n4_ n5_;(try clear hb);(try clear hb2);(try clear hk);(try clear hi)))
       have n0_:=Aside0.mk (Kd.N_drew HO_177005.out)
       have n1_:=Aside0.mk (blk_drew BK169.out)
       have n2_:=Aside0.mk (blk_drew BK176.out)
       have n3_:=Aside0.mk (IsS91.drew HI0.out)
       have n4_:=Aside0.mk (keep_drew HK.out)
       have n5_:=Aside0.mk (below_drew1 HB.out)
       clear HO_177005
       clear BK169
       clear BK176
       clear HI0
       clear HK
       clear HB
       have HO_177005:=n0_
       have BK169:=n1_
       have BK176:=n2_
       have HI0:=n3_
       have HK:=n4_
       have HB:=n5_
       clear n0_ n1_ n2_ n3_ n4_ n5_
       obtain ⟨Ao76,co76,eo76⟩:=Kd.N_slice HO_177005.out
       (first|subst eo76|(injection eo76 with f1_ f2_ f3_;have f4_:=f1_.symm;have f5_:=f3_.symm;clear f1_ f2_ f3_;subst f4_;subst f5_))
       have p208 : 0 ≤ (0 : Int):=(by omega)
       have q208 : 0 < (x177005_5.length : Int):=of_decide_eq_true (by first|(with_reducible assumption)|assumption)
       obtain ⟨ad208,A208_3,c208_3,A208_5,c208_5,e208,hx208_0,hx208_1,hx208_2,hx208_3,hx208_4,hx208_5,hl208_3,hi208_3,hl208_5,hi208_5⟩:=at_T27 (Kd.N_reads' HO_177005.out).2.2 0 p208 q208
       cases e208
       obtain ⟨ce208,hce208,hMe208,hcc208⟩:=Kd.N_get HO_177005.out z27 0 p208 (by first|exact q208|exact of_decide_eq_true (by first|(with_reducible assumption)|assumption)|(have e_:=(Kd.N_reads' HO_177005.out).1;omega))
       obtain ⟨ua208_3,uc208_3,ua208_5,uc208_5,rfl,ul208_3,ge208_3,ul208_5,ge208_5⟩:=k27_openF hMe208
       have hv208_3:=hcc208 3 _ rfl
       rw [add_field _ _ 3 (by omega)] at hv208_3
       replace hv208_3:=Option.some.inj (hv208_3.symm.trans hx208_3)
       injection hv208_3 with hva_ hvn_ hvc_
       rw [hva_] at ge208_3
       rw [hvc_] at ul208_3
       have HL208_3:=Aside0.mk (show Kd.V (Kd.int .i64) 3 _ w.heap.size _ _ ((rd_T27 x177005_5 0).f3) from Kd.V_mk ul208_3 ge208_3)
       clear hva_ hvn_ hvc_ ge208_3 ul208_3
       have hv208_5:=hcc208 5 _ rfl
       rw [add_field _ _ 5 (by omega)] at hv208_5
       replace hv208_5:=Option.some.inj (hv208_5.symm.trans hx208_5)
       injection hv208_5 with hva_ hvn_ hvc_
       rw [hva_] at ge208_5
       rw [hvc_] at ul208_5
       have HL208_5:=Aside0.mk (show Kd.V (Kd.int .i64) 3 _ w.heap.size _ _ ((rd_T27 x177005_5 0).f5) from Kd.V_mk ul208_5 ge208_5)
       clear hva_ hvn_ hvc_ ge208_5 ul208_5
       clear hcc208 hce208
       have qi208 : (0 < x177005_5.length)=True:=eq_true (by omega)
       (try rw [show ((0 : Int)).toNat=0 from rfl] at hx208_0)
       (try rw [show 0 * 6=0 from rfl] at hx208_0)
       (try rw [Addr.add_zero'] at hx208_0)
       (try rw [show ((0 : Int)).toNat=0 from rfl] at hx208_1)
       (try rw [show 0 * 6=0 from rfl] at hx208_1)
       (try rw [Addr.add_zero'] at hx208_1)
       (try rw [show ((0 : Int)).toNat=0 from rfl] at hx208_2)
       (try rw [show 0 * 6=0 from rfl] at hx208_2)
       (try rw [Addr.add_zero'] at hx208_2)
       (try rw [show ((0 : Int)).toNat=0 from rfl] at hx208_3)
       (try rw [show 0 * 6=0 from rfl] at hx208_3)
       (try rw [Addr.add_zero'] at hx208_3)
       (try rw [show ((0 : Int)).toNat=0 from rfl] at hx208_4)
       (try rw [show 0 * 6=0 from rfl] at hx208_4)
       (try rw [Addr.add_zero'] at hx208_4)
       (try rw [show ((0 : Int)).toNat=0 from rfl] at hx208_5)
       (try rw [show 0 * 6=0 from rfl] at hx208_5)
       (try rw [Addr.add_zero'] at hx208_5)
       have HR208_3:=Aside0.mk hi208_3
       have HC208_3:=Aside0.mk hl208_3
       clear hi208_3 hl208_3
       have HR208_5:=Aside0.mk hi208_5
       have HC208_5:=Aside0.mk hl208_5
       clear hi208_5 hl208_5
       replace p208:=eq_true p208
       replace q208:=eq_true q208
       refine start_ (n:=10) (S:=fun w'=>w'.cell? ⟨gb176,0,none⟩ = some (.bool (t170 == 0))∧w'.cell? ⟨gb176,1,none⟩ = some (.bool x177001_5)∧w'.cell? ⟨gb176,2,none⟩ = some (.int .i64 x177002_5)∧w'.cell? ⟨gb176,3,none⟩ = some (.int .i64 x177003_5)∧w'.cell? ⟨gb176,4,none⟩ = some (.int .i64 x177004_5)∧w'.cell? ⟨gb176,5,none⟩ = some (.slice (some ad208) x177005_5.length co76)∧w'.cell? ad208=some (.int .i64 ((rd_T27 x177005_5 0).f0))∧w'.cell? ⟨ad208.block,ad208.off + 1,none⟩ = some (.int .i64 ((rd_T27 x177005_5 0).f1))∧w'.cell? ⟨ad208.block,ad208.off + 2,none⟩ = some (.bool ((rd_T27 x177005_5 0).f2))∧w'.cell? ⟨ad208.block,ad208.off + 3,none⟩ = some (.slice A208_3 ((rd_T27 x177005_5 0).f3).length c208_3)∧w'.cell? ⟨ad208.block,ad208.off + 4,none⟩ = some (.bool ((rd_T27 x177005_5 0).f4))∧w'.cell? ⟨ad208.block,ad208.off + 5,none⟩ = some (.slice A208_5 ((rd_T27 x177005_5 0).f5).length c208_5)) (ds:=[7,9]) #[false,false,false,false,false,false,false,false,false,false] (by kernel_rfl) rfl rfl ⟨(blk_cell BK176.out 0).trans rfl,(blk_cell BK176.out 1).trans rfl,(blk_cell BK176.out 2).trans rfl,(blk_cell BK176.out 3).trans rfl,(blk_cell BK176.out 4).trans rfl,(blk_cell BK176.out 5).trans rfl,hx208_0,hx208_1,hx208_2,hx208_3,hx208_4,hx208_5⟩ (fun hHeld=>?_);refine with_tabW spec_l91Batch.tab13 spec_l91Batch.bits13 (fun HT_ HW_=>?_)
       generalize w74.drew=w75 at HO_177005 BK169 BK176 HI0 HK HB HL208_3 HL208_5 HR208_3 HR208_5 hx208_0 hx208_1 hx208_2 hx208_3 hx208_4 hx208_5 hHeld ⊢
       refine pure_ (i:=0) (N:=some 51) (v:=?_) (a':=?_) #[true,false,false,false,false,false,false,false,false,false] rfl rfl (any_of HT_.out (by kernel_rfl)) (fun _ _ _ h=>h) (Or.inl ⟨by rfl,?_⟩) ?_ ?_
       rotate_left
       ·intro w'
        go_simp
        with_reducible rfl
       rotate_left
       ·simp only [Act.put,List.setIfInBounds_toArray,List.set_cons_zero,List.set_cons_succ,i64_w,i32_w]
        rfl
       refine pure_ (i:=2) (N:=some 53) (v:=?_) (a':=?_) #[true,false,true,false,false,false,false,false,false,false] rfl rfl (any_of HT_.out (by kernel_rfl)) (fun _ _ _ h=>h) (Or.inl ⟨by rfl,?_⟩) ?_ ?_
       rotate_left
       ·intro w'
        go_simp
        with_reducible rfl
       rotate_left
       ·simp only [Act.put,List.setIfInBounds_toArray,List.set_cons_zero,List.set_cons_succ,i64_w,i32_w]
        rfl
       refine take_ (i:=1) (N:=some 52) (v:=?_) (a':=?_) #[true,true,true,false,false,false,false,false,false,false] rfl rfl (take_ofW HT_.out HW_.out (by kernel_rfl)) (fun _ _ _ h=>h) (Or.inl ⟨by rfl,?_⟩) hHeld ?_ ?_
       rotate_left
       ·rintro w' ⟨s0,s1,s2,s3,s4,s5,s6,s7,s8,s9,s10,s11⟩
        go_simp
        with_reducible rfl
       rotate_left
       ·simp only [Act.put,List.setIfInBounds_toArray,List.set_cons_zero,List.set_cons_succ,i64_w,i32_w]
        rfl
       refine take_ (i:=3) (N:=some 54) (v:=?_) (a':=?_) #[true,true,true,true,false,false,false,false,false,false] rfl rfl (take_ofW HT_.out HW_.out (by kernel_rfl)) (fun _ _ _ h=>h) (Or.inl ⟨by rfl,?_⟩) hHeld ?_ ?_
       rotate_left
       ·rintro w' ⟨s0,s1,s2,s3,s4,s5,s6,s7,s8,s9,s10,s11⟩
        go_simp
        with_reducible rfl
       rotate_left
       ·simp only [Act.put,List.setIfInBounds_toArray,List.set_cons_zero,List.set_cons_succ,i64_w,i32_w]
        rfl
       refine pure_ (i:=4) (N:=some 55) (v:=?_) (a':=?_) #[true,true,true,true,true,false,false,false,false,false] rfl rfl (any_of HT_.out (by kernel_rfl)) (fun _ _ _ h=>h) (Or.inl ⟨by rfl,?_⟩) ?_ ?_
       rotate_left
       ·intro w'
        go_simp
        with_reducible rfl
       rotate_left
       ·simp only [Act.put,List.setIfInBounds_toArray,List.set_cons_zero,List.set_cons_succ,i64_w,i32_w]
        rfl
       refine take_ (i:=5) (N:=some 56) (v:=?_) (a':=?_) #[true,true,true,true,true,true,false,false,false,false] rfl rfl (take_ofW HT_.out HW_.out (by kernel_rfl)) (fun _ _ _ h=>h) (Or.inl ⟨by rfl,?_⟩) hHeld ?_ ?_
       rotate_left
       ·rintro w' ⟨s0,s1,s2,s3,s4,s5,s6,s7,s8,s9,s10,s11⟩
        go_simp
        with_reducible rfl
       rotate_left
       ·simp only [Act.put,List.setIfInBounds_toArray,List.set_cons_zero,List.set_cons_succ,i64_w,i32_w]
        rfl
       refine one_ (i:=6) (N:=some 57) #[true,true,true,true,true,true,true,false,false,false] rfl rfl (one_of HT_.out (by kernel_rfl)) (by decide) (fun K hK=>?_)
       refine value_ (w1:=?_) (v:=?_) (by rfl) rfl ?_ ?_
       rotate_left 2
       ·go_simp
        constructor
        ·rfl
        ·rfl
       refine hK.out _ _ ⟨(blk_cell (blk_alloc BK176.out _) 0).trans rfl,(blk_cell (blk_alloc BK176.out _) 1).trans rfl,(blk_cell (blk_alloc BK176.out _) 2).trans rfl,(blk_cell (blk_alloc BK176.out _) 3).trans rfl,(blk_cell (blk_alloc BK176.out _) 4).trans rfl,(blk_cell (blk_alloc BK176.out _) 5).trans rfl,(World.cell?_alloc_lt _ _ _ (World.block_lt_of_cell? _ _ (hHeld.2.2.2.2.2.2.1))).trans (hHeld.2.2.2.2.2.2.1),(World.cell?_alloc_lt _ _ _ (World.block_lt_of_cell? _ _ (hHeld.2.2.2.2.2.2.2.1))).trans (hHeld.2.2.2.2.2.2.2.1),(World.cell?_alloc_lt _ _ _ (World.block_lt_of_cell? _ _ (hHeld.2.2.2.2.2.2.2.2.1))).trans (hHeld.2.2.2.2.2.2.2.2.1),(World.cell?_alloc_lt _ _ _ (World.block_lt_of_cell? _ _ (hHeld.2.2.2.2.2.2.2.2.2.1))).trans (hHeld.2.2.2.2.2.2.2.2.2.1),(World.cell?_alloc_lt _ _ _ (World.block_lt_of_cell? _ _ (hHeld.2.2.2.2.2.2.2.2.2.2.1))).trans (hHeld.2.2.2.2.2.2.2.2.2.2.1),(World.cell?_alloc_lt _ _ _ (World.block_lt_of_cell? _ _ (hHeld.2.2.2.2.2.2.2.2.2.2.2))).trans (hHeld.2.2.2.2.2.2.2.2.2.2.2)⟩ (fun hHeld=>?_)
       clear hK K
       refine norm_ (a':=?_) ?_ ?_
       rotate_left
       ·show Act.put _ (some 57) _=_
        simp only [Act.put,List.setIfInBounds_toArray,List.set_cons_zero,List.set_cons_succ,i64_w,i32_w]
        rfl
       refine last_ (i:=7) (N:=some 58) #[true,true,true,true,true,true,true,true,false,false] rfl rfl (one_of HT_.out (by kernel_rfl)) (by decide) (fun K hK=>?_)
       refine Kd.N_append_step k27 w.heap.size (by rfl) (.tmp 52) (.tmp 57) 52 27 (.agg #[(.int .i64 0),(.int .i64 0),(.bool false),(.slice none 0 0),(.bool false),(.slice none 0 0)]) 80 rfl Try.underlying52 info27 rfl (by decide) (by omega) (.slice (some ad208) x177005_5.length co76) x177005_5 (⟨(rd_T27 x177005_5 0).f0,(rd_T27 x177005_5 0).f1,(rd_T27 x177005_5 0).f2,(rd_T27 x177005_5 0).f3,(rd_T27 x177005_5 0).f4,(rd_T27 x177005_5 0).f5⟩ : S27) [.int .i64 ((rd_T27 x177005_5 0).f0),.int .i64 ((rd_T27 x177005_5 0).f1),.bool ((rd_T27 x177005_5 0).f2),.slice A208_3 ((rd_T27 x177005_5 0).f3).length c208_3,.bool ((rd_T27 x177005_5 0).f4),.slice A208_5 ((rd_T27 x177005_5 0).f5).length c208_5] (fun k_=>(w.heap.size ≤ k_)∧k_ ≠ gb169∧k_ ≠ gb176∧k_ ≠ g) (fun k_=>((fun k_=>(w.heap.size ≤ k_)∧k_ ≠ gb169∧k_ ≠ gb176∧k_ ≠ g)) k_∧some k_ ≠ (.slice (some ad208) x177005_5.length co76 : Value).ownBlock) rfl rfl ?aP (fun _ hk=>hk) ?aF ?aO (Below.refl _ _) ?aS ?aL ?_
       (case aP=>exact (k27_mkF _ _ (⟨(rd_T27 x177005_5 0).f0,(rd_T27 x177005_5 0).f1,(rd_T27 x177005_5 0).f2,(rd_T27 x177005_5 0).f3,(rd_T27 x177005_5 0).f4,(rd_T27 x177005_5 0).f5⟩ : S27) (Kd.V_reads' (Kd.V_mono (ok':=(fun k_=>((fun k_=>(w.heap.size ≤ k_)∧k_ ≠ gb169∧k_ ≠ gb176∧k_ ≠ g)) k_∧some k_ ≠ (.slice (some ad208) x177005_5.length co76 : Value).ownBlock)) (HL208_3.out) (fun k_ hk=>⟨⟨hk.1.1,⟨hk.1.2.1,⟨hk.1.2.2.1,hk.1.2.2.2⟩⟩⟩,hk.2⟩))).2.1 (Kd.V_F (Kd.V_mono (ok':=(fun k_=>((fun k_=>(w.heap.size ≤ k_)∧k_ ≠ gb169∧k_ ≠ gb176∧k_ ≠ g)) k_∧some k_ ≠ (.slice (some ad208) x177005_5.length co76 : Value).ownBlock)) (HL208_3.out) (fun k_ hk=>⟨⟨hk.1.1,⟨hk.1.2.1,⟨hk.1.2.2.1,hk.1.2.2.2⟩⟩⟩,hk.2⟩))) (Kd.V_reads' (Kd.V_mono (ok':=(fun k_=>((fun k_=>(w.heap.size ≤ k_)∧k_ ≠ gb169∧k_ ≠ gb176∧k_ ≠ g)) k_∧some k_ ≠ (.slice (some ad208) x177005_5.length co76 : Value).ownBlock)) (HL208_5.out) (fun k_ hk=>⟨⟨hk.1.1,⟨hk.1.2.1,⟨hk.1.2.2.1,hk.1.2.2.2⟩⟩⟩,hk.2⟩))).2.1 (Kd.V_F (Kd.V_mono (ok':=(fun k_=>((fun k_=>(w.heap.size ≤ k_)∧k_ ≠ gb169∧k_ ≠ gb176∧k_ ≠ g)) k_∧some k_ ≠ (.slice (some ad208) x177005_5.length co76 : Value).ownBlock)) (HL208_5.out) (fun k_ hk=>⟨⟨hk.1.1,⟨hk.1.2.1,⟨hk.1.2.2.1,hk.1.2.2.2⟩⟩⟩,hk.2⟩)))))
       (case aF=>exact (fun k_ hk=>⟨(Nat.le_trans (keep_size (w:=w) (g:=g) (row:=none) (by repeat (first|(with_reducible first|exact HK.out|apply KeepBut.set_|apply keep_drewN|apply keep_drew|apply keep_alloc|refine keep_far ?_ GW169.out _|refine keep_far ?_ GW176.out _)|exact HK.out))) hk),Kd.freshB (g:=gb169) (o:=.cells #[.bool false,.bool false,.int .i64 0,.int .i64 0,.int .i64 0,.slice none 0 0] 54 (0,0)) (by (with_reducible repeat (first|refine blk_drewN ?_ _|refine blk_drew ?_|refine blk_alloc ?_ _));exact BK169.out) k_ hk,Kd.freshB (g:=gb176) (o:=.cells #[.bool (t170 == 0),.bool x177001_5,.int .i64 x177002_5,.int .i64 x177003_5,.int .i64 x177004_5,.slice (some ad208) x177005_5.length co76] 54 (0,0)) (by (with_reducible repeat (first|refine blk_drewN ?_ _|refine blk_drew ?_|refine blk_alloc ?_ _));exact BK176.out) k_ hk,IsS91.fresh (by repeat (first|(with_reducible first|exact HI0.out|apply IsS91.alloc|apply IsS91.drewN|apply IsS91.drew|apply IsS91.set_1|refine IsS91.far ?_ NB0_169.out _|refine IsS91.far ?_ NB0_176.out _)|exact HI0.out)) k_ hk⟩))
       (case aO=>exact (by (with_reducible repeat (first|apply Kd.N_alloc|apply Kd.N_drewN|apply Kd.N_drew));exact HO_177005.out))
       (case aS=>exact (keep_size (w:=w) (g:=g) (row:=none) (by repeat (first|(with_reducible first|exact HK.out|apply KeepBut.set_|apply keep_drewN|apply keep_drew|apply keep_alloc|refine keep_far ?_ GW169.out _|refine keep_far ?_ GW176.out _)|exact HK.out))))
       (case aL=>have:=LMc73.out;omega)
       intro v210 w77 ho hb hg hat
       rw [← Ny209.out] at ho
       have n0_:=Aside0.mk (blk_grown (g:=gb169) (o:=.cells #[.bool false,.bool false,.int .i64 0,.int .i64 0,.int .i64 0,.slice none 0 0] 54 (0,0)) (by (with_reducible repeat (first|refine blk_drewN ?_ _|refine blk_drew ?_|refine blk_alloc ?_ _));exact BK169.out) hg (Kd.N_ne HO_177005.out BK169.out (by decide)))
       have n1_:=Aside0.mk (blk_grown (g:=gb176) (o:=.cells #[.bool (t170 == 0),.bool x177001_5,.int .i64 x177002_5,.int .i64 x177003_5,.int .i64 x177004_5,.slice (some ad208) x177005_5.length co76] 54 (0,0)) (by (with_reducible repeat (first|refine blk_drewN ?_ _|refine blk_drew ?_|refine blk_alloc ?_ _));exact BK176.out) hg (Kd.N_ne HO_177005.out BK176.out (by decide)))
       have n2_:=Aside0.mk (IsS91.grown (by repeat (first|(with_reducible first|exact HI0.out|apply IsS91.alloc|apply IsS91.drewN|apply IsS91.drew|apply IsS91.set_1|refine IsS91.far ?_ NB0_169.out _|refine IsS91.far ?_ NB0_176.out _)|exact HI0.out)) hg (IsS91.own_neN HI0.out HO_177005.out (by decide)))
       have n3_:=Aside0.mk (Kd.V_afterv (ok:=(fun k_=>(w.heap.size ≤ k_)∧k_ ≠ gb169∧k_ ≠ gb176∧k_ ≠ g)) (by (with_reducible repeat (first|apply Kd.V_alloc|apply Kd.V_drewN|apply Kd.V_drew));exact HL208_3.out) hg hat)
       have n4_:=Aside0.mk (Kd.V_afterv (ok:=(fun k_=>(w.heap.size ≤ k_)∧k_ ≠ gb169∧k_ ≠ gb176∧k_ ≠ g)) (by (with_reducible repeat (first|apply Kd.V_alloc|apply Kd.V_drewN|apply Kd.V_drew));exact HL208_5.out) hg hat)
       have n5_:=Aside0.mk (below_weaken (by repeat (first|(with_reducible first|exact HB.out|apply below_alloc|apply pw_below_drewN|apply below_drew1|refine below_set ?_ (IsS91.ge HI0.out)|refine below_set ?_ GE169.out|refine below_set ?_ GE176.out)|exact HB.out)) HL.out hb)
       have n6_:=Aside0.mk (KeepBut.trans (by repeat (first|(with_reducible first|exact HK.out|apply KeepBut.set_|apply keep_drewN|apply keep_drew|apply keep_alloc|refine keep_far ?_ GW169.out _|refine keep_far ?_ GW176.out _)|exact HK.out)) (KeepBut.of_grown hg g) (Kd.N_base2 HO_177005.out))
       have n7_:=Aside0.mk (ho)
       clear BK169
       clear BK176
       clear HI0
       clear HL208_3
       clear HL208_5
       clear HB
       clear HK
       clear HO_177005
       have BK169:=n0_
       have BK176:=n1_
       have HI0:=n2_
       have HL208_3:=n3_
       have HL208_5:=n4_
       have HB:=n5_
       have HK:=n6_
       have HO211:=n7_
       clear n0_ n1_ n2_ n3_ n4_ n5_ n6_ n7_
       clear ho hb hg hat
       obtain ⟨Ao78,co78,eo78⟩:=Kd.N_slice HO211.out
       (first|subst eo78|(injection eo78 with f1_ f2_ f3_;have f4_:=f1_.symm;have f5_:=f3_.symm;clear f1_ f2_ f3_;subst f4_;subst f5_))
       refine hK.out _ _ ?_
       clear hK K
       refine norm_ (a':=?_) ?_ ?_
       rotate_left
       ·show Act.put _ (some 58) _=_
        simp only [Act.put,List.setIfInBounds_toArray,List.set_cons_zero,List.set_cons_succ,i64_w,i32_w]
        rfl
       refine pure_ (i:=8) (N:=some 59) (v:=?_) (a':=?_) #[true,true,true,true,true,true,true,true,true,false] rfl rfl (any_of HT_.out (by kernel_rfl)) (fun _ _ _ h=>h) (Or.inl ⟨by rfl,?_⟩) ?_ ?_
       rotate_left
       ·intro w'
        go_simp
        with_reducible rfl
       rotate_left
       ·simp only [Act.put,List.setIfInBounds_toArray,List.set_cons_zero,List.set_cons_succ,i64_w,i32_w]
        rfl
       refine last_ (i:=9) (N:=none) #[true,true,true,true,true,true,true,true,true,true] rfl rfl (one_of HT_.out (by kernel_rfl)) (by decide) (fun K hK=>?_)
       have hs79 : w77.cell? ⟨gb176,5,none⟩ = some (.slice (some ad208) x177005_5.length co76):=(blk_cell BK176.out 5).trans rfl
       have hfs79:=blk_frozen BK176.out 5
       have hns79_0:=NB169_176.out
       have hms79_0:=NB176_169.out
       refine skip_ (w1:=?_) (by rfl) rfl ?_ ?_
       rotate_left
       ·go_simp
        rfl
       refine hK.out _ _ ?_
       clear hK K
       refine done_ (done_of HT_.out (by kernel_rfl)) ?_
       have hnb80:=NB176_169.out
       have hnc80:=NB169_176.out
       have hnb81:=NB176_0.out
       have hnc81:=NB0_176.out
       have hcz82_0 : w77.cell? ⟨gb176,0,none⟩ = some (.bool (t170 == 0)):=(blk_cell BK176.out 0).trans rfl
       have hcz82_1 : w77.cell? ⟨gb176,1,none⟩ = some (.bool x177001_5):=(blk_cell BK176.out 1).trans rfl
       have hcz82_2 : w77.cell? ⟨gb176,2,none⟩ = some (.int .i64 x177002_5):=(blk_cell BK176.out 2).trans rfl
       have hcz82_3 : w77.cell? ⟨gb176,3,none⟩ = some (.int .i64 x177003_5):=(blk_cell BK176.out 3).trans rfl
       have hcz82_4 : w77.cell? ⟨gb176,4,none⟩ = some (.int .i64 x177004_5):=(blk_cell BK176.out 4).trans rfl
       have hcz82_5 : w77.cell? ⟨gb176,5,none⟩ = some (.slice (some ad208) x177005_5.length co76):=(blk_cell BK176.out 5).trans rfl
       have hfz82_0:=blk_frozen BK176.out 0
       have hfz82_1:=blk_frozen BK176.out 1
       have hfz82_2:=blk_frozen BK176.out 2
       have hfz82_3:=blk_frozen BK176.out 3
       have hfz82_4:=blk_frozen BK176.out 4
       have hfz82_5:=blk_frozen BK176.out 5
       have hnb83:=NB169_0.out
       have hnc83:=NB0_169.out
       have hcz84_0 : w77.cell? ⟨gb169,0,none⟩ = some (.bool false):=(blk_cell BK169.out 0).trans rfl
       have hcz84_1 : w77.cell? ⟨gb169,1,none⟩ = some (.bool false):=(blk_cell BK169.out 1).trans rfl
       have hcz84_2 : w77.cell? ⟨gb169,2,none⟩ = some (.int .i64 0):=(blk_cell BK169.out 2).trans rfl
       have hcz84_3 : w77.cell? ⟨gb169,3,none⟩ = some (.int .i64 0):=(blk_cell BK169.out 3).trans rfl
       have hcz84_4 : w77.cell? ⟨gb169,4,none⟩ = some (.int .i64 0):=(blk_cell BK169.out 4).trans rfl
       have hcz84_5 : w77.cell? ⟨gb169,5,none⟩ = some (.slice none 0 0):=(blk_cell BK169.out 5).trans rfl
       have hfz84_0:=blk_frozen BK169.out 0
       have hfz84_1:=blk_frozen BK169.out 1
       have hfz84_2:=blk_frozen BK169.out 2
       have hfz84_3:=blk_frozen BK169.out 3
       have hfz84_4:=blk_frozen BK169.out 4
       have hfz84_5:=blk_frozen BK169.out 5
       try go_wp2
       refine bodyPost_ret (results_cell_row rfl _ _ gb169 54 #[.bool (t170 == 0),.bool x177001_5,.int .i64 x177002_5,.int .i64 x177003_5,.int .i64 x177004_5,.slice Ao78 y209.length co78] (0,0) _ rfl (by (with_reducible repeat (first|refine blk_drewN ?_ _|refine blk_drew ?_|refine blk_alloc ?_ _));refine blk_put (cs:=#[.bool (t170 == 0),.bool x177001_5,.int .i64 x177002_5,.int .i64 x177003_5,.int .i64 x177004_5,.slice none 0 0]) ?_ 5 _ rfl;(with_reducible repeat (first|refine blk_drewN ?_ _|refine blk_drew ?_|refine blk_alloc ?_ _));refine blk_put (cs:=#[.bool (t170 == 0),.bool x177001_5,.int .i64 x177002_5,.int .i64 x177003_5,.int .i64 0,.slice none 0 0]) ?_ 4 _ rfl;(with_reducible repeat (first|refine blk_drewN ?_ _|refine blk_drew ?_|refine blk_alloc ?_ _));refine blk_put (cs:=#[.bool (t170 == 0),.bool x177001_5,.int .i64 x177002_5,.int .i64 0,.int .i64 0,.slice none 0 0]) ?_ 3 _ rfl;(with_reducible repeat (first|refine blk_drewN ?_ _|refine blk_drew ?_|refine blk_alloc ?_ _));refine blk_put (cs:=#[.bool (t170 == 0),.bool x177001_5,.int .i64 0,.int .i64 0,.int .i64 0,.slice none 0 0]) ?_ 2 _ rfl;(with_reducible repeat (first|refine blk_drewN ?_ _|refine blk_drew ?_|refine blk_alloc ?_ _));refine blk_put (cs:=#[.bool (t170 == 0),.bool false,.int .i64 0,.int .i64 0,.int .i64 0,.slice none 0 0]) ?_ 1 _ rfl;(with_reducible repeat (first|refine blk_drewN ?_ _|refine blk_drew ?_|refine blk_alloc ?_ _));refine blk_put (cs:=#[.bool false,.bool false,.int .i64 0,.int .i64 0,.int .i64 0,.slice none 0 0]) ?_ 0 _ rfl;(with_reducible repeat (first|refine blk_drewN ?_ _|refine blk_drew ?_|refine blk_alloc ?_ _));refine blk_far ?_ NB169_176.out _;(with_reducible repeat (first|refine blk_drewN ?_ _|refine blk_drew ?_|refine blk_alloc ?_ _));exact BK169.out) Try.underlying54 rfl (by kernel_rfl)) rfl ?_
       exact ⟨_,by first|rfl|(simp [errW_none,errW_some] <;> rfl)|(simp [*,errW_none,errW_some] <;> rfl),by (with_reducible repeat (first|apply Kd.N_alloc|apply Kd.N_drewN|apply Kd.N_drew));exact Kd.N_mono (Kd.N_far (p:=⟨gb169,5,none⟩) (Kd.N_far (p:=⟨gb169,4,none⟩) (Kd.N_far (p:=⟨gb169,3,none⟩) (Kd.N_far (p:=⟨gb169,2,none⟩) (Kd.N_far (p:=⟨gb169,1,none⟩) (Kd.N_far (p:=⟨gb169,0,none⟩) (Kd.N_far (p:=⟨gb176,5,none⟩) (Kd.N_mono (Kd.N_mono HO211.out (fun k_ hk=>(⟨hk,hk.2.2.1⟩ : _∧k_ ≠ gb176))) (fun k_ hk=>(⟨hk,hk.1.2.1⟩ : _∧k_ ≠ gb169))) (fun _ hk=>hk.1.2) (.slice Ao78 y209.length co78)) (fun _ hk=>hk.2) (.bool (t170 == 0))) (fun _ hk=>hk.2) (.bool x177001_5)) (fun _ hk=>hk.2) (.int .i64 x177002_5)) (fun _ hk=>hk.2) (.int .i64 x177003_5)) (fun _ hk=>hk.2) (.int .i64 x177004_5)) (fun _ hk=>hk.2) (.slice Ao78 y209.length co78)) (fun _ hk=>hk.1.1.1),by repeat (first|(with_reducible first|exact HI0.out|apply IsS91.alloc|apply IsS91.drewN|apply IsS91.drew|apply IsS91.set_1|refine IsS91.far ?_ NB0_169.out _|refine IsS91.far ?_ NB0_176.out _)|exact HI0.out),by repeat (first|(with_reducible first|exact HB.out|apply below_alloc|apply pw_below_drewN|apply below_drew1|refine below_set ?_ (IsS91.ge HI0.out)|refine below_set ?_ GE169.out|refine below_set ?_ GE176.out)|exact HB.out),by repeat (first|(with_reducible first|exact HK.out|apply KeepBut.set_|apply keep_drewN|apply keep_drew|apply keep_alloc|refine keep_far ?_ GW169.out _|refine keep_far ?_ GW176.out _)|exact HK.out)⟩
      ·rw [if_neg c73] at H
       exact absurd H (by simp)
     ·rw [if_neg c72] at H
      exact absurd H (by simp)
    ·rw [if_neg c71] at H
     have c71b0 : (t200 == 1)=false:=beq_eq_false_iff_ne.mpr c71
     have c71b1 : (t200 != 1)=true:=bne_iff_ne.mpr c71
     by_cases c85 : t200=2
     ·rw [if_pos c85] at H
      have c85b0 : (t200 == 2)=true:=beq_iff_eq.mpr c85
      have c85b1 : (t200 != 2)=false:=bne_eq_false_iff_eq.mpr c85
      clear c85
      simp only [Option.some.injEq,Prod.mk.injEq] at H
      obtain ⟨rfl,rfl,rfl,rfl,rfl,rfl,rfl⟩:=H
      go_wp2_with (first|((with_reducible refine gate_callee (f:=65) rfl ?_);refine goesL_ (some 40) rfl rfl Try.func65 (by kernel_rfl) rfl #[.pointer (some ⟨g,0,none⟩),.int .i64 40] rfl (by (try simp only [List.map_toArray,List.map_cons,List.map_nil]);first|done|rfl|(simp only [List.length_drop,List.length_take];rfl)) ?_;(with_reducible refine (spec_l6Rd_pick.calls kj5 g s0_0 x1001_5 40 t200 t201 w0 _ ?side1 ?side2 A55.out).mono ?_);(case side1=>repeat (first|(with_reducible first|exact HI0.out|apply IsS91.alloc|apply IsS91.drewN|apply IsS91.drew|apply IsS91.set_1|refine IsS91.far ?_ NB0_169.out _|refine IsS91.far ?_ NB0_176.out _)|exact HI0.out));(case side2=>repeat (first|(with_reducible first|exact HB.out|apply below_alloc|apply pw_below_drewN|apply below_drew1|refine below_set ?_ (IsS91.ge HI0.out)|refine below_set ?_ GE169.out|refine below_set ?_ GE176.out)|exact HB.out));rintro e w86 ⟨rfl,hi,hb,hk⟩;refine ⟨_,rfl,?_⟩;have n0_:=Aside0.mk (Kd.N_mono (Kd.N_keep (Kd.N_mono (ok:=fun k_=>(((w.heap.size ≤ k_))∧(k_ ≠ gb169∧(k_ ≠ gb176∧k_ ≠ g)))) (by (with_reducible repeat (first|apply Kd.N_alloc|apply Kd.N_drewN|apply Kd.N_drew));exact HO_177005.out) (fun k_ hk_=>(⟨hk_,hk_.2.2.2⟩ : _∧k_ ≠ g))) hk (fun _ h=>h.2)) (fun _ h=>h.1));have n1_:=Aside0.mk (KeepBut.blk hk (g':=gb169) (o:=.cells #[.bool false,.bool false,.int .i64 0,.int .i64 0,.int .i64 0,.slice none 0 0] 54 (0,0)) (by (with_reducible repeat (first|refine blk_drewN ?_ _|refine blk_drew ?_|refine blk_alloc ?_ _));exact BK169.out) NB169_0.out (by simp));have n2_:=Aside0.mk (KeepBut.blk hk (g':=gb176) (o:=.cells #[.bool (t170 == 0),.bool x177001_5,.int .i64 x177002_5,.int .i64 x177003_5,.int .i64 x177004_5,u177005] 54 (0,0)) (by (with_reducible repeat (first|refine blk_drewN ?_ _|refine blk_drew ?_|refine blk_alloc ?_ _));exact BK176.out) NB176_0.out (by simp));have n3_:=Aside0.mk (KeepBut.trans (by repeat (first|(with_reducible first|exact HK.out|apply KeepBut.set_|apply keep_drewN|apply keep_drew|apply keep_alloc|refine keep_far ?_ GW169.out _|refine keep_far ?_ GW176.out _)|exact HK.out)) hk (.inl rfl));have n4_:=Aside0.mk (hb);have n5_:=Aside0.mk (hi);clear HO_177005;clear BK169;clear BK176;clear HK;clear HB;clear HI0;have HO_177005:=n0_;have BK169:=n1_;have BK176:=n2_;have HK:=n3_;have HB:=n4_;have HI0:=n5_;clear n0_ n1_ n2_ n3_ n4_ n5_;(try clear hb);(try clear hb2);(try clear hk);(try clear hi);have hnb87:=NB176_169.out;have hnc87:=NB169_176.out;have hnb88:=NB176_0.out;have hnc88:=NB0_176.out;have hcz89_0 : w86.cell? ⟨gb176,0,none⟩ = some (.bool (t170 == 0)):=(blk_cell BK176.out 0).trans rfl;have hcz89_1 : w86.cell? ⟨gb176,1,none⟩ = some (.bool x177001_5):=(blk_cell BK176.out 1).trans rfl;have hcz89_2 : w86.cell? ⟨gb176,2,none⟩ = some (.int .i64 x177002_5):=(blk_cell BK176.out 2).trans rfl;have hcz89_3 : w86.cell? ⟨gb176,3,none⟩ = some (.int .i64 x177003_5):=(blk_cell BK176.out 3).trans rfl;have hcz89_4 : w86.cell? ⟨gb176,4,none⟩ = some (.int .i64 x177004_5):=(blk_cell BK176.out 4).trans rfl;have hcz89_5 : w86.cell? ⟨gb176,5,none⟩ = some (u177005):=(blk_cell BK176.out 5).trans rfl;have hfz89_0:=blk_frozen BK176.out 0;have hfz89_1:=blk_frozen BK176.out 1;have hfz89_2:=blk_frozen BK176.out 2;have hfz89_3:=blk_frozen BK176.out 3;have hfz89_4:=blk_frozen BK176.out 4;have hfz89_5:=blk_frozen BK176.out 5;have hnb90:=NB169_0.out;have hnc90:=NB0_169.out;have hcz91_0 : w86.cell? ⟨gb169,0,none⟩ = some (.bool false):=(blk_cell BK169.out 0).trans rfl;have hcz91_1 : w86.cell? ⟨gb169,1,none⟩ = some (.bool false):=(blk_cell BK169.out 1).trans rfl;have hcz91_2 : w86.cell? ⟨gb169,2,none⟩ = some (.int .i64 0):=(blk_cell BK169.out 2).trans rfl;have hcz91_3 : w86.cell? ⟨gb169,3,none⟩ = some (.int .i64 0):=(blk_cell BK169.out 3).trans rfl;have hcz91_4 : w86.cell? ⟨gb169,4,none⟩ = some (.int .i64 0):=(blk_cell BK169.out 4).trans rfl;have hcz91_5 : w86.cell? ⟨gb169,5,none⟩ = some (.slice none 0 0):=(blk_cell BK169.out 5).trans rfl;have hfz91_0:=blk_frozen BK169.out 0;have hfz91_1:=blk_frozen BK169.out 1;have hfz91_2:=blk_frozen BK169.out 2;have hfz91_3:=blk_frozen BK169.out 3;have hfz91_4:=blk_frozen BK169.out 4;have hfz91_5:=blk_frozen BK169.out 5;obtain ⟨Ao92,co92,eo92⟩:=Kd.N_slice HO_177005.out;subst eo92))
      refine bodyPost_ret (results_cell_row rfl _ _ gb169 54 #[.bool (t170 == 0),.bool (!x177001_5),.int .i64 x177002_5,.int .i64 x177003_5,.int .i64 x177004_5,.slice Ao92 x177005_5.length co92] (0,0) _ rfl (by (with_reducible repeat (first|refine blk_drewN ?_ _|refine blk_drew ?_|refine blk_alloc ?_ _));refine blk_put (cs:=#[.bool (t170 == 0),.bool (!x177001_5),.int .i64 x177002_5,.int .i64 x177003_5,.int .i64 x177004_5,.slice none 0 0]) ?_ 5 _ rfl;(with_reducible repeat (first|refine blk_drewN ?_ _|refine blk_drew ?_|refine blk_alloc ?_ _));refine blk_put (cs:=#[.bool (t170 == 0),.bool (!x177001_5),.int .i64 x177002_5,.int .i64 x177003_5,.int .i64 0,.slice none 0 0]) ?_ 4 _ rfl;(with_reducible repeat (first|refine blk_drewN ?_ _|refine blk_drew ?_|refine blk_alloc ?_ _));refine blk_put (cs:=#[.bool (t170 == 0),.bool (!x177001_5),.int .i64 x177002_5,.int .i64 0,.int .i64 0,.slice none 0 0]) ?_ 3 _ rfl;(with_reducible repeat (first|refine blk_drewN ?_ _|refine blk_drew ?_|refine blk_alloc ?_ _));refine blk_put (cs:=#[.bool (t170 == 0),.bool (!x177001_5),.int .i64 0,.int .i64 0,.int .i64 0,.slice none 0 0]) ?_ 2 _ rfl;(with_reducible repeat (first|refine blk_drewN ?_ _|refine blk_drew ?_|refine blk_alloc ?_ _));refine blk_put (cs:=#[.bool (t170 == 0),.bool false,.int .i64 0,.int .i64 0,.int .i64 0,.slice none 0 0]) ?_ 1 _ rfl;(with_reducible repeat (first|refine blk_drewN ?_ _|refine blk_drew ?_|refine blk_alloc ?_ _));refine blk_put (cs:=#[.bool false,.bool false,.int .i64 0,.int .i64 0,.int .i64 0,.slice none 0 0]) ?_ 0 _ rfl;(with_reducible repeat (first|refine blk_drewN ?_ _|refine blk_drew ?_|refine blk_alloc ?_ _));refine blk_far ?_ NB169_176.out _;(with_reducible repeat (first|refine blk_drewN ?_ _|refine blk_drew ?_|refine blk_alloc ?_ _));exact BK169.out) Try.underlying54 rfl (by kernel_rfl)) rfl ?_
      exact ⟨_,by first|rfl|(simp [errW_none,errW_some] <;> rfl)|(simp [*,errW_none,errW_some] <;> rfl),by (with_reducible repeat (first|apply Kd.N_alloc|apply Kd.N_drewN|apply Kd.N_drew));exact Kd.N_mono (Kd.N_far (p:=⟨gb169,5,none⟩) (Kd.N_far (p:=⟨gb169,4,none⟩) (Kd.N_far (p:=⟨gb169,3,none⟩) (Kd.N_far (p:=⟨gb169,2,none⟩) (Kd.N_far (p:=⟨gb169,1,none⟩) (Kd.N_far (p:=⟨gb169,0,none⟩) (Kd.N_far (p:=⟨gb176,1,none⟩) (Kd.N_mono (Kd.N_mono HO_177005.out (fun k_ hk=>(⟨hk,hk.2.2.1⟩ : _∧k_ ≠ gb176))) (fun k_ hk=>(⟨hk,hk.1.2.1⟩ : _∧k_ ≠ gb169))) (fun _ hk=>hk.1.2) (.bool (!x177001_5))) (fun _ hk=>hk.2) (.bool (t170 == 0))) (fun _ hk=>hk.2) (.bool (!x177001_5))) (fun _ hk=>hk.2) (.int .i64 x177002_5)) (fun _ hk=>hk.2) (.int .i64 x177003_5)) (fun _ hk=>hk.2) (.int .i64 x177004_5)) (fun _ hk=>hk.2) (.slice Ao92 x177005_5.length co92)) (fun _ hk=>hk.1.1.1),by repeat (first|(with_reducible first|exact HI0.out|apply IsS91.alloc|apply IsS91.drewN|apply IsS91.drew|apply IsS91.set_1|refine IsS91.far ?_ NB0_169.out _|refine IsS91.far ?_ NB0_176.out _)|exact HI0.out),by repeat (first|(with_reducible first|exact HB.out|apply below_alloc|apply pw_below_drewN|apply below_drew1|refine below_set ?_ (IsS91.ge HI0.out)|refine below_set ?_ GE169.out|refine below_set ?_ GE176.out)|exact HB.out),by repeat (first|(with_reducible first|exact HK.out|apply KeepBut.set_|apply keep_drewN|apply keep_drew|apply keep_alloc|refine keep_far ?_ GW169.out _|refine keep_far ?_ GW176.out _)|exact HK.out)⟩
     ·rw [if_neg c85] at H
      have c85b0 : (t200 == 2)=false:=beq_eq_false_iff_ne.mpr c85
      have c85b1 : (t200 != 2)=true:=bne_iff_ne.mpr c85
      simp only [Option.some.injEq,Prod.mk.injEq] at H
      obtain ⟨rfl,rfl,rfl,rfl,rfl,rfl,rfl⟩:=H
      go_wp2_with (first|((with_reducible refine gate_callee (f:=65) rfl ?_);refine goesL_ (some 40) rfl rfl Try.func65 (by kernel_rfl) rfl #[.pointer (some ⟨g,0,none⟩),.int .i64 40] rfl (by (try simp only [List.map_toArray,List.map_cons,List.map_nil]);first|done|rfl|(simp only [List.length_drop,List.length_take];rfl)) ?_;(with_reducible refine (spec_l6Rd_pick.calls kj5 g s0_0 x1001_5 40 t200 t201 w0 _ ?side1 ?side2 A55.out).mono ?_);(case side1=>repeat (first|(with_reducible first|exact HI0.out|apply IsS91.alloc|apply IsS91.drewN|apply IsS91.drew|apply IsS91.set_1|refine IsS91.far ?_ NB0_169.out _|refine IsS91.far ?_ NB0_176.out _)|exact HI0.out));(case side2=>repeat (first|(with_reducible first|exact HB.out|apply below_alloc|apply pw_below_drewN|apply below_drew1|refine below_set ?_ (IsS91.ge HI0.out)|refine below_set ?_ GE169.out|refine below_set ?_ GE176.out)|exact HB.out));rintro e w93 ⟨rfl,hi,hb,hk⟩;refine ⟨_,rfl,?_⟩;have n0_:=Aside0.mk (Kd.N_mono (Kd.N_keep (Kd.N_mono (ok:=fun k_=>(((w.heap.size ≤ k_))∧(k_ ≠ gb169∧(k_ ≠ gb176∧k_ ≠ g)))) (by (with_reducible repeat (first|apply Kd.N_alloc|apply Kd.N_drewN|apply Kd.N_drew));exact HO_177005.out) (fun k_ hk_=>(⟨hk_,hk_.2.2.2⟩ : _∧k_ ≠ g))) hk (fun _ h=>h.2)) (fun _ h=>h.1));have n1_:=Aside0.mk (KeepBut.blk hk (g':=gb169) (o:=.cells #[.bool false,.bool false,.int .i64 0,.int .i64 0,.int .i64 0,.slice none 0 0] 54 (0,0)) (by (with_reducible repeat (first|refine blk_drewN ?_ _|refine blk_drew ?_|refine blk_alloc ?_ _));exact BK169.out) NB169_0.out (by simp));have n2_:=Aside0.mk (KeepBut.blk hk (g':=gb176) (o:=.cells #[.bool (t170 == 0),.bool x177001_5,.int .i64 x177002_5,.int .i64 x177003_5,.int .i64 x177004_5,u177005] 54 (0,0)) (by (with_reducible repeat (first|refine blk_drewN ?_ _|refine blk_drew ?_|refine blk_alloc ?_ _));exact BK176.out) NB176_0.out (by simp));have n3_:=Aside0.mk (KeepBut.trans (by repeat (first|(with_reducible first|exact HK.out|apply KeepBut.set_|apply keep_drewN|apply keep_drew|apply keep_alloc|refine keep_far ?_ GW169.out _|refine keep_far ?_ GW176.out _)|exact HK.out)) hk (.inl rfl));have n4_:=Aside0.mk (hb);have n5_:=Aside0.mk (hi);clear HO_177005;clear BK169;clear BK176;clear HK;clear HB;clear HI0;have HO_177005:=n0_;have BK169:=n1_;have BK176:=n2_;have HK:=n3_;have HB:=n4_;have HI0:=n5_;clear n0_ n1_ n2_ n3_ n4_ n5_;(try clear hb);(try clear hb2);(try clear hk);(try clear hi);have hnb94:=NB176_169.out;have hnc94:=NB169_176.out;have hnb95:=NB176_0.out;have hnc95:=NB0_176.out;have hcz96_0 : w93.cell? ⟨gb176,0,none⟩ = some (.bool (t170 == 0)):=(blk_cell BK176.out 0).trans rfl;have hcz96_1 : w93.cell? ⟨gb176,1,none⟩ = some (.bool x177001_5):=(blk_cell BK176.out 1).trans rfl;have hcz96_2 : w93.cell? ⟨gb176,2,none⟩ = some (.int .i64 x177002_5):=(blk_cell BK176.out 2).trans rfl;have hcz96_3 : w93.cell? ⟨gb176,3,none⟩ = some (.int .i64 x177003_5):=(blk_cell BK176.out 3).trans rfl;have hcz96_4 : w93.cell? ⟨gb176,4,none⟩ = some (.int .i64 x177004_5):=(blk_cell BK176.out 4).trans rfl;have hcz96_5 : w93.cell? ⟨gb176,5,none⟩ = some (u177005):=(blk_cell BK176.out 5).trans rfl;have hfz96_0:=blk_frozen BK176.out 0;have hfz96_1:=blk_frozen BK176.out 1;have hfz96_2:=blk_frozen BK176.out 2;have hfz96_3:=blk_frozen BK176.out 3;have hfz96_4:=blk_frozen BK176.out 4;have hfz96_5:=blk_frozen BK176.out 5;have hnb97:=NB169_0.out;have hnc97:=NB0_169.out;have hcz98_0 : w93.cell? ⟨gb169,0,none⟩ = some (.bool false):=(blk_cell BK169.out 0).trans rfl;have hcz98_1 : w93.cell? ⟨gb169,1,none⟩ = some (.bool false):=(blk_cell BK169.out 1).trans rfl;have hcz98_2 : w93.cell? ⟨gb169,2,none⟩ = some (.int .i64 0):=(blk_cell BK169.out 2).trans rfl;have hcz98_3 : w93.cell? ⟨gb169,3,none⟩ = some (.int .i64 0):=(blk_cell BK169.out 3).trans rfl;have hcz98_4 : w93.cell? ⟨gb169,4,none⟩ = some (.int .i64 0):=(blk_cell BK169.out 4).trans rfl;have hcz98_5 : w93.cell? ⟨gb169,5,none⟩ = some (.slice none 0 0):=(blk_cell BK169.out 5).trans rfl;have hfz98_0:=blk_frozen BK169.out 0;have hfz98_1:=blk_frozen BK169.out 1;have hfz98_2:=blk_frozen BK169.out 2;have hfz98_3:=blk_frozen BK169.out 3;have hfz98_4:=blk_frozen BK169.out 4;have hfz98_5:=blk_frozen BK169.out 5;obtain ⟨Ao99,co99,eo99⟩:=Kd.N_slice HO_177005.out;subst eo99))
      refine bodyPost_ret (results_cell_row rfl _ _ gb169 54 #[.bool (t170 == 0),.bool x177001_5,.int .i64 x177002_5,.int .i64 x177003_5,.int .i64 x177004_5,.slice Ao99 x177005_5.length co99] (0,0) _ rfl (by (with_reducible repeat (first|refine blk_drewN ?_ _|refine blk_drew ?_|refine blk_alloc ?_ _));refine blk_put (cs:=#[.bool (t170 == 0),.bool x177001_5,.int .i64 x177002_5,.int .i64 x177003_5,.int .i64 x177004_5,.slice none 0 0]) ?_ 5 _ rfl;(with_reducible repeat (first|refine blk_drewN ?_ _|refine blk_drew ?_|refine blk_alloc ?_ _));refine blk_put (cs:=#[.bool (t170 == 0),.bool x177001_5,.int .i64 x177002_5,.int .i64 x177003_5,.int .i64 0,.slice none 0 0]) ?_ 4 _ rfl;(with_reducible repeat (first|refine blk_drewN ?_ _|refine blk_drew ?_|refine blk_alloc ?_ _));refine blk_put (cs:=#[.bool (t170 == 0),.bool x177001_5,.int .i64 x177002_5,.int .i64 0,.int .i64 0,.slice none 0 0]) ?_ 3 _ rfl;(with_reducible repeat (first|refine blk_drewN ?_ _|refine blk_drew ?_|refine blk_alloc ?_ _));refine blk_put (cs:=#[.bool (t170 == 0),.bool x177001_5,.int .i64 0,.int .i64 0,.int .i64 0,.slice none 0 0]) ?_ 2 _ rfl;(with_reducible repeat (first|refine blk_drewN ?_ _|refine blk_drew ?_|refine blk_alloc ?_ _));refine blk_put (cs:=#[.bool (t170 == 0),.bool false,.int .i64 0,.int .i64 0,.int .i64 0,.slice none 0 0]) ?_ 1 _ rfl;(with_reducible repeat (first|refine blk_drewN ?_ _|refine blk_drew ?_|refine blk_alloc ?_ _));refine blk_put (cs:=#[.bool false,.bool false,.int .i64 0,.int .i64 0,.int .i64 0,.slice none 0 0]) ?_ 0 _ rfl;(with_reducible repeat (first|refine blk_drewN ?_ _|refine blk_drew ?_|refine blk_alloc ?_ _));exact BK169.out) Try.underlying54 rfl (by kernel_rfl)) rfl ?_
      exact ⟨_,by first|rfl|(simp [errW_none,errW_some] <;> rfl)|(simp [*,errW_none,errW_some] <;> rfl),by (with_reducible repeat (first|apply Kd.N_alloc|apply Kd.N_drewN|apply Kd.N_drew));exact Kd.N_mono (Kd.N_far (p:=⟨gb169,5,none⟩) (Kd.N_far (p:=⟨gb169,4,none⟩) (Kd.N_far (p:=⟨gb169,3,none⟩) (Kd.N_far (p:=⟨gb169,2,none⟩) (Kd.N_far (p:=⟨gb169,1,none⟩) (Kd.N_far (p:=⟨gb169,0,none⟩) (Kd.N_mono HO_177005.out (fun k_ hk=>(⟨hk,hk.2.1⟩ : _∧k_ ≠ gb169))) (fun _ hk=>hk.2) (.bool (t170 == 0))) (fun _ hk=>hk.2) (.bool x177001_5)) (fun _ hk=>hk.2) (.int .i64 x177002_5)) (fun _ hk=>hk.2) (.int .i64 x177003_5)) (fun _ hk=>hk.2) (.int .i64 x177004_5)) (fun _ hk=>hk.2) (.slice Ao99 x177005_5.length co99)) (fun _ hk=>hk.1.1),by repeat (first|(with_reducible first|exact HI0.out|apply IsS91.alloc|apply IsS91.drewN|apply IsS91.drew|apply IsS91.set_1|refine IsS91.far ?_ NB0_169.out _|refine IsS91.far ?_ NB0_176.out _)|exact HI0.out),by repeat (first|(with_reducible first|exact HB.out|apply below_alloc|apply pw_below_drewN|apply below_drew1|refine below_set ?_ (IsS91.ge HI0.out)|refine below_set ?_ GE169.out|refine below_set ?_ GE176.out)|exact HB.out),by repeat (first|(with_reducible first|exact HK.out|apply KeepBut.set_|apply keep_drewN|apply keep_drew|apply keep_alloc|refine keep_far ?_ GW169.out _|refine keep_far ?_ GW176.out _)|exact HK.out)⟩

/-! ### spec_DrawBatchValid: function 39 -/
def spec_DrawBatchValid.f (k : Nat) (l0 : List Int) : Option (Bool × Bool × Int × Int × Int × (List (S27))):=(spec_l6Open.f l0).bind fun bt213=>((spec_l6Rd_pick.f k bt213.1 bt213.2 60).bind fun bt216=>((spec_l91Batch.f k bt213.1 bt216.2 bt216.1).bind fun bt218=>(some (bt218.1,bt218.2.1,bt218.2.2.1,bt218.2.2.2.1,bt218.2.2.2.2.1,bt218.2.2.2.2.2.1))))
theorem spec_DrawBatchValid.mono : ∀ a0 k,LeO (spec_DrawBatchValid.f k a0) (spec_DrawBatchValid.f (k + 1) a0):=by
 intro a0 k
 unfold spec_DrawBatchValid.f
 repeat' first
   | (with_reducible exact spec_l6Rd_pick.mono _ _ _ _)
   | (with_reducible exact spec_l91Batch.mono _ _ _ _)
   | (with_reducible exact LeO.refl _)
   | (with_reducible exact LeO.none _)
   | (with_reducible refine LeO.ite ?_ ?_)
   | (with_reducible refine LeO.bind ?_ (fun _=>?_))
   | exact spec_l6Rd_pick.mono _ _ _ _
   | exact spec_l91Batch.mono _ _ _ _
   | exact LeO.none _
   | refine LeO.ite ?_ ?_
   | refine LeO.bind ?_ (fun _=>?_)
set_option maxHeartbeats 8000000 in
set_option maxRecDepth 100000 in
theorem spec_DrawBatchValid.calls (k : Nat) (A0 : Option Addr) (c0 : Nat) (l0 : List Int) (r1 : Bool) (r2 : Bool) (r3 : Int) (r4 : Int) (r5 : Int) (r6 : List (S27)) (w : World) (hr0 : Kd.C (Kd.int .u8) w A0 l0.length l0) (hc0 : l0.length ≤ c0) (h : spec_DrawBatchValid.f k l0=some (r1,r2,r3,r4,r5,r6)) :
  Calls Try.prog 39 #[.slice A0 l0.length c0] w fun e w'=>∃ v5_ : Value,e = .returned (.agg #[.bool r1,.bool r2,.int .i64 r3,.int .i64 r4,.int .i64 r5,v5_])∧Kd.N k27 27 w' w.heap.size (fun k_=>(w.heap.size ≤ k_)) v5_ r6∧Below w.heap.size w w':=by
 have hu54:=Try.underlying54
 have HR0:=Aside0.mk hr0
 have HC0:=Aside0.mk hc0
 clear hr0 hc0
 have HB:=Aside0.mk (Below.refl w.heap.size w)
 have H : ((spec_l6Open.f l0).bind fun bt213=>((spec_l6Rd_pick.f k bt213.1 bt213.2 60).bind fun bt216=>((spec_l91Batch.f k bt213.1 bt216.2 bt216.1).bind fun bt218=>(some (bt218.1,bt218.2.1,bt218.2.2.1,bt218.2.2.2.1,bt218.2.2.2.2.1,bt218.2.2.2.2.2.1)))))=some (r1,r2,r3,r4,r5,r6):=h
 clear h
 replace H:=Option.bind_eq_some_iff.mp H
 obtain ⟨⟨t213,t214⟩,A20,H⟩:=H
 replace H : ((spec_l6Rd_pick.f k t213 t214 60).bind fun bt216=>((spec_l91Batch.f k t213 bt216.2 bt216.1).bind fun bt218=>(some (bt218.1,bt218.2.1,bt218.2.2.1,bt218.2.2.2.1,bt218.2.2.2.2.1,bt218.2.2.2.2.2.1))))=some (r1,r2,r3,r4,r5,r6):=H
 have A2:=Aside0.mk A20
 clear A20
 replace H:=Option.bind_eq_some_iff.mp H
 obtain ⟨⟨t216,t217⟩,A30,H⟩:=H
 replace H : ((spec_l91Batch.f k t213 t217 t216).bind fun bt218=>(some (bt218.1,bt218.2.1,bt218.2.2.1,bt218.2.2.2.1,bt218.2.2.2.2.1,bt218.2.2.2.2.2.1)))=some (r1,r2,r3,r4,r5,r6):=H
 have A3:=Aside0.mk A30
 clear A30
 replace H:=Option.bind_eq_some_iff.mp H
 obtain ⟨⟨t218,t219,t220,t221,t222,t223,t226⟩,A40,H⟩:=H
 replace H : (some (t218,t219,t220,t221,t222,t223))=some (r1,r2,r3,r4,r5,r6):=H
 have A4:=Aside0.mk A40
 clear A40
 simp only [Option.some.injEq,Prod.mk.injEq] at H
 obtain ⟨rfl,rfl,rfl,rfl,rfl,rfl⟩:=H
 go_enter Try.func39,Try.ntmps39
 go_wp2_with (first|((with_reducible refine gate_dst (N:=2) rfl ?_);refine box_event ?hg (N:=2) ?hd (cs:=#[.bool false,.bool false,.int .i64 0,.int .i64 0,.int .i64 0,.slice none 0 0]) (t:=54) ?hr ?_;(case hd=>rfl);(case hg=>rfl);(case hr=>first|(go_simp;done)|(go_simp;rfl));intro gb212 hg w5 hbox hb;have n0_:=Aside0.mk (below_step (by repeat (first|(with_reducible first|exact HB.out|apply below_alloc|apply pw_below_drewN|apply below_drew1)|exact HB.out)) hb);have n1_:=Aside0.mk (hbox);have n2_:=Aside0.mk ((by rw [hg];exact (below_size (by repeat (first|(with_reducible first|exact HB.out|apply below_alloc|apply pw_below_drewN|apply below_drew1)|exact HB.out))) : w.heap.size ≤ gb212));have n3_:=Aside0.mk ((by rw [hg];exact (below_size (by repeat (first|(with_reducible first|exact HB.out|apply below_alloc|apply pw_below_drewN|apply below_drew1)|exact HB.out))) : w.heap.size ≤ gb212));clear HB;have HB:=n0_;have BK212:=n1_;have GW212:=n2_;have GE212:=n3_;clear n0_ n1_ n2_ n3_;clear hb hbox hg)|((with_reducible refine gate_callee (f:=59) rfl ?_);refine goesL_ (some 5) rfl rfl Try.func59 (by kernel_rfl) rfl #[.slice A0 l0.length c0] rfl (by (try simp only [List.map_toArray,List.map_cons,List.map_nil]);first|done|rfl|(simp only [List.length_drop,List.length_take];rfl)) ?_;(with_reducible refine (spec_l6Open.calls _ _ l0 t213 t214 w _ ?side1 ?side2 ?side3 A2.out).mono ?_);(case side1=>repeat (first|(with_reducible first|exact HB.out|apply below_alloc|apply pw_below_drewN|apply below_drew1|refine below_set ?_ GE212.out)|exact HB.out));(case side2=>exact HR0.out);(case side3=>exact HC0.out);rintro e w6 ⟨g215,rfl,hi,hb,hb2⟩;refine ⟨_,rfl,?_⟩;have n0_:=Aside0.mk (blk_below (g:=gb212) (o:=.cells #[.bool false,.bool false,.int .i64 0,.int .i64 0,.int .i64 0,.slice none 0 0] 54 (0,0)) (by (with_reducible repeat (first|refine blk_drewN ?_ _|refine blk_drew ?_|refine blk_alloc ?_ _));exact BK212.out) hb2);have n1_:=Aside0.mk (hb);have n2_:=Aside0.mk (hi);have n3_:=Aside0.mk (IsS91.ne_blk hi (blk_below (g:=gb212) (o:=.cells #[.bool false,.bool false,.int .i64 0,.int .i64 0,.int .i64 0,.slice none 0 0] 54 (0,0)) (by (with_reducible repeat (first|refine blk_drewN ?_ _|refine blk_drew ?_|refine blk_alloc ?_ _));exact BK212.out) hb2) (by decide));have n4_:=Aside0.mk (Ne.symm (IsS91.ne_blk hi (blk_below (g:=gb212) (o:=.cells #[.bool false,.bool false,.int .i64 0,.int .i64 0,.int .i64 0,.slice none 0 0] 54 (0,0)) (by (with_reducible repeat (first|refine blk_drewN ?_ _|refine blk_drew ?_|refine blk_alloc ?_ _));exact BK212.out) hb2) (by decide)));clear BK212;clear HB;have BK212:=n0_;have HB:=n1_;have HI215:=n2_;have NB215_212:=n3_;have NB212_215:=n4_;clear n0_ n1_ n2_ n3_ n4_;(try clear hb);(try clear hb2);(try clear hk);(try clear hi))|((with_reducible refine gate_callee (f:=65) rfl ?_);refine goesL_ (some 8) rfl rfl Try.func65 (by kernel_rfl) rfl #[.pointer (some ⟨g215,0,none⟩),.int .i64 60] rfl (by (try simp only [List.map_toArray,List.map_cons,List.map_nil]);first|done|rfl|(simp only [List.length_drop,List.length_take];rfl)) ?_;(with_reducible refine (spec_l6Rd_pick.calls k g215 t213 t214 60 t216 t217 w _ ?side1 ?side2 A3.out).mono ?_);(case side1=>repeat (first|(with_reducible first|exact HI215.out|apply IsS91.alloc|apply IsS91.drewN|apply IsS91.drew|apply IsS91.set_1|refine IsS91.far ?_ NB215_212.out _)|exact HI215.out));(case side2=>repeat (first|(with_reducible first|exact HB.out|apply below_alloc|apply pw_below_drewN|apply below_drew1|refine below_set ?_ (IsS91.ge HI215.out)|refine below_set ?_ GE212.out)|exact HB.out));rintro e w7 ⟨rfl,hi,hb,hk⟩;refine ⟨_,rfl,?_⟩;have n0_:=Aside0.mk (KeepBut.blk hk (g':=gb212) (o:=.cells #[.bool false,.bool false,.int .i64 0,.int .i64 0,.int .i64 0,.slice none 0 0] 54 (0,0)) (by (with_reducible repeat (first|refine blk_drewN ?_ _|refine blk_drew ?_|refine blk_alloc ?_ _));exact BK212.out) NB212_215.out (by simp));have n1_:=Aside0.mk (hb);have n2_:=Aside0.mk (hi);clear BK212;clear HB;clear HI215;have BK212:=n0_;have HB:=n1_;have HI215:=n2_;clear n0_ n1_ n2_;(try clear hb);(try clear hb2);(try clear hk);(try clear hi))|((with_reducible refine gate_callee (f:=75) rfl ?_);refine goesL_ (some 9) rfl rfl Try.func75 (by kernel_rfl) rfl #[.pointer (some ⟨g215,0,none⟩),.int .i64 t216] rfl (by (try simp only [List.map_toArray,List.map_cons,List.map_nil]);first|done|rfl|(simp only [List.length_drop,List.length_take];rfl)) ?_;(with_reducible refine (spec_l91Batch.calls k g215 t213 t217 t216 t218 t219 t220 t221 t222 t223 t226 w _ ?side1 ?side2 A4.out).mono ?_);(case side1=>repeat (first|(with_reducible first|exact HI215.out|apply IsS91.alloc|apply IsS91.drewN|apply IsS91.drew|apply IsS91.set_1|refine IsS91.far ?_ NB215_212.out _)|exact HI215.out));(case side2=>repeat (first|(with_reducible first|exact HB.out|apply below_alloc|apply pw_below_drewN|apply below_drew1|refine below_set ?_ (IsS91.ge HI215.out)|refine below_set ?_ GE212.out)|exact HB.out));rintro e w8 ⟨v224,rfl,ho0,hi,hb,hk⟩;refine ⟨_,rfl,?_⟩;have n0_:=Aside0.mk (KeepBut.blk hk (g':=gb212) (o:=.cells #[.bool false,.bool false,.int .i64 0,.int .i64 0,.int .i64 0,.slice none 0 0] 54 (0,0)) (by (with_reducible repeat (first|refine blk_drewN ?_ _|refine blk_drew ?_|refine blk_alloc ?_ _));exact BK212.out) NB212_215.out (by simp));have n1_:=Aside0.mk (Kd.N_lower (Kd.N_mono (ok':=fun k_=>(w.heap.size ≤ k_)∧k_ ≠ gb212∧k_ ≠ g215) ho0 (fun k_ hk_=>⟨(Nat.le_trans (below_size (by repeat (first|(with_reducible first|exact HB.out|apply below_alloc|apply pw_below_drewN|apply below_drew1|refine below_set ?_ (IsS91.ge HI215.out)|refine below_set ?_ GE212.out)|exact HB.out))) hk_),(Kd.freshB (g:=gb212) (o:=.cells #[.bool false,.bool false,.int .i64 0,.int .i64 0,.int .i64 0,.slice none 0 0] 54 (0,0)) (by (with_reducible repeat (first|refine blk_drewN ?_ _|refine blk_drew ?_|refine blk_alloc ?_ _));exact BK212.out) k_ hk_),(IsS91.fresh (by repeat (first|(with_reducible first|exact HI215.out|apply IsS91.alloc|apply IsS91.drewN|apply IsS91.drew|apply IsS91.set_1|refine IsS91.far ?_ NB215_212.out _)|exact HI215.out)) k_ hk_)⟩)) (below_size (by repeat (first|(with_reducible first|exact HB.out|apply below_alloc|apply pw_below_drewN|apply below_drew1|refine below_set ?_ (IsS91.ge HI215.out)|refine below_set ?_ GE212.out)|exact HB.out))));have n2_:=Aside0.mk (hb);have n3_:=Aside0.mk (hi);clear BK212;clear HB;clear HI215;have BK212:=n0_;have HO225:=n1_;have HB:=n2_;have HI215:=n3_;clear n0_ n1_ n2_ n3_;(try clear hb);(try clear hb2);(try clear hk);(try clear hi);(try clear ho0);have hnb9:=NB212_215.out;have hnc9:=NB215_212.out;have hcz10_0 : w8.cell? ⟨gb212,0,none⟩ = some (.bool false):=(blk_cell BK212.out 0).trans rfl;have hcz10_1 : w8.cell? ⟨gb212,1,none⟩ = some (.bool false):=(blk_cell BK212.out 1).trans rfl;have hcz10_2 : w8.cell? ⟨gb212,2,none⟩ = some (.int .i64 0):=(blk_cell BK212.out 2).trans rfl;have hcz10_3 : w8.cell? ⟨gb212,3,none⟩ = some (.int .i64 0):=(blk_cell BK212.out 3).trans rfl;have hcz10_4 : w8.cell? ⟨gb212,4,none⟩ = some (.int .i64 0):=(blk_cell BK212.out 4).trans rfl;have hcz10_5 : w8.cell? ⟨gb212,5,none⟩ = some (.slice none 0 0):=(blk_cell BK212.out 5).trans rfl;have hfz10_0:=blk_frozen BK212.out 0;have hfz10_1:=blk_frozen BK212.out 1;have hfz10_2:=blk_frozen BK212.out 2;have hfz10_3:=blk_frozen BK212.out 3;have hfz10_4:=blk_frozen BK212.out 4;have hfz10_5:=blk_frozen BK212.out 5;obtain ⟨Ao11,co11,eo11⟩:=Kd.N_slice HO225.out;subst eo11))
 refine bodyPost_ret (results_cell_row rfl _ _ gb212 54 #[.bool t218,.bool t219,.int .i64 t220,.int .i64 t221,.int .i64 t222,.slice Ao11 t223.length co11] (0,0) _ rfl (by (with_reducible repeat (first|refine blk_drewN ?_ _|refine blk_drew ?_|refine blk_alloc ?_ _));refine blk_put (cs:=#[.bool t218,.bool t219,.int .i64 t220,.int .i64 t221,.int .i64 t222,.slice none 0 0]) ?_ 5 _ rfl;(with_reducible repeat (first|refine blk_drewN ?_ _|refine blk_drew ?_|refine blk_alloc ?_ _));refine blk_put (cs:=#[.bool t218,.bool t219,.int .i64 t220,.int .i64 t221,.int .i64 0,.slice none 0 0]) ?_ 4 _ rfl;(with_reducible repeat (first|refine blk_drewN ?_ _|refine blk_drew ?_|refine blk_alloc ?_ _));refine blk_put (cs:=#[.bool t218,.bool t219,.int .i64 t220,.int .i64 0,.int .i64 0,.slice none 0 0]) ?_ 3 _ rfl;(with_reducible repeat (first|refine blk_drewN ?_ _|refine blk_drew ?_|refine blk_alloc ?_ _));refine blk_put (cs:=#[.bool t218,.bool t219,.int .i64 0,.int .i64 0,.int .i64 0,.slice none 0 0]) ?_ 2 _ rfl;(with_reducible repeat (first|refine blk_drewN ?_ _|refine blk_drew ?_|refine blk_alloc ?_ _));refine blk_put (cs:=#[.bool t218,.bool false,.int .i64 0,.int .i64 0,.int .i64 0,.slice none 0 0]) ?_ 1 _ rfl;(with_reducible repeat (first|refine blk_drewN ?_ _|refine blk_drew ?_|refine blk_alloc ?_ _));refine blk_put (cs:=#[.bool false,.bool false,.int .i64 0,.int .i64 0,.int .i64 0,.slice none 0 0]) ?_ 0 _ rfl;(with_reducible repeat (first|refine blk_drewN ?_ _|refine blk_drew ?_|refine blk_alloc ?_ _));exact BK212.out) Try.underlying54 rfl (by kernel_rfl)) rfl ?_
 exact ⟨_,by first|rfl|(simp [errW_none,errW_some] <;> rfl)|(simp [*,errW_none,errW_some] <;> rfl),by (with_reducible repeat (first|apply Kd.N_alloc|apply Kd.N_drewN|apply Kd.N_drew));exact Kd.N_mono (Kd.N_far (p:=⟨gb212,5,none⟩) (Kd.N_far (p:=⟨gb212,4,none⟩) (Kd.N_far (p:=⟨gb212,3,none⟩) (Kd.N_far (p:=⟨gb212,2,none⟩) (Kd.N_far (p:=⟨gb212,1,none⟩) (Kd.N_far (p:=⟨gb212,0,none⟩) (Kd.N_mono HO225.out (fun k_ hk=>(⟨hk,hk.2.1⟩ : _∧k_ ≠ gb212))) (fun _ hk=>hk.2) (.bool t218)) (fun _ hk=>hk.2) (.bool t219)) (fun _ hk=>hk.2) (.int .i64 t220)) (fun _ hk=>hk.2) (.int .i64 t221)) (fun _ hk=>hk.2) (.int .i64 t222)) (fun _ hk=>hk.2) (.slice Ao11 t223.length co11)) (fun _ hk=>hk.1.1),by repeat (first|(with_reducible first|exact HB.out|apply below_alloc|apply pw_below_drewN|apply below_drew1|refine below_set ?_ (IsS91.ge HI215.out)|refine below_set ?_ GE212.out)|exact HB.out)⟩

/-! ### impl_within: function 77 -/
def impl_within.f (a0 : Int) (a1 : Int) (a2 : Int) : Option (Bool):=if a0 ≥ a1 then (some (decide (a0 ≤ a2))) else (some false)
set_option maxHeartbeats 8000000 in
set_option maxRecDepth 100000 in
theorem impl_within.calls (a0 : Int) (a1 : Int) (a2 : Int) (r : Bool) (w : World) (h : impl_within.f a0 a1 a2=some r) :
  Calls Try.prog 77 #[.int .i64 a0,.int .i64 a1,.int .i64 a2] w fun e w'=>e = .returned (.bool r)∧Drawn0 w w':=by
 have H : (if a0 ≥ a1 then (some (decide (a0 ≤ a2))) else (some false))=some r:=h
 clear h
 by_cases c4 : a0 ≥ a1
 ·rw [if_pos c4] at H
  have c4b0 : decide (a1 ≤ a0)=true:=decide_eq_true c4
  clear c4
  obtain rfl:=Option.some.inj H
  go_enter Try.func77,Try.ntmps77
  go_wp2
  go_ret
  exact ⟨by first|rfl|(simp;done)|(simp [*];done),by repeat (first|exact Drawn0.refl _|apply Drawn0.step)⟩
 ·rw [if_neg c4] at H
  have c4b0 : decide (a1 ≤ a0)=false:=decide_eq_false c4
  clear c4
  obtain rfl:=Option.some.inj H
  go_enter Try.func77,Try.ntmps77
  go_wp2
  go_ret
  exact ⟨by first|rfl|(simp;done)|(simp [*];done),by repeat (first|exact Drawn0.refl _|apply Drawn0.step)⟩

/-! ### impl_baseValid: function 56 -/
def impl_baseValid.f (a0 : Int) (a1 : Int) : Option (Bool):=(impl_within.f a0 0 99999).bind fun t227=>(if t227=true then ((impl_within.f a1 0 99999).bind fun t228=>(some t228)) else (some false))
set_option maxHeartbeats 8000000 in
set_option maxRecDepth 100000 in
theorem impl_baseValid.calls (a0 : Int) (a1 : Int) (r : Bool) (w : World) (h : impl_baseValid.f a0 a1=some r) :
  Calls Try.prog 56 #[.int .i64 a0,.int .i64 a1] w fun e w'=>e = .returned (.bool r)∧Drawn0 w w':=by
 have H : ((impl_within.f a0 0 99999).bind fun t227=>(if t227=true then ((impl_within.f a1 0 99999).bind fun t228=>(some t228)) else (some false)))=some r:=h
 clear h
 replace H:=Option.bind_eq_some_iff.mp H
 obtain ⟨t227,A30,H⟩:=H
 replace H : (if t227=true then ((impl_within.f a1 0 99999).bind fun t228=>(some t228)) else (some false))=some r:=H
 have A3:=Aside0.mk A30
 clear A30
 by_cases c4 : t227=true
 ·subst c4
  have H1 : ((impl_within.f a1 0 99999).bind fun t228=>(some t228))=some r:=by rw [if_pos rfl] at H;exact H
  clear H
  have H:=H1
  clear H1
  replace H:=Option.bind_eq_some_iff.mp H
  obtain ⟨t228,A50,H⟩:=H
  replace H : (some t228)=some r:=H
  have A5:=Aside0.mk A50
  clear A50
  obtain rfl:=Option.some.inj H
  go_enter Try.func56,Try.ntmps56
  go_wp2_with (first|((with_reducible refine gate_callee (f:=77) rfl ?_);refine goesL_ (some 6) rfl rfl Try.func77 (by kernel_rfl) rfl #[.int .i64 a0,.int .i64 0,.int .i64 99999] rfl (by (try simp only [List.map_toArray,List.map_cons,List.map_nil]);first|done|rfl|(simp only [List.length_drop,List.length_take];rfl)) ?_;(with_reducible refine (impl_within.calls a0 0 99999 true _ A3.out).mono ?_);rintro e w' ⟨rfl,⟨nd,rfl⟩⟩;refine ⟨_,rfl,?_⟩)|(go_at_call 77;(with_reducible refine (impl_within.calls a1 0 99999 t228 _ A5.out).mono ?_);rintro e w' ⟨rfl,⟨nd,rfl⟩⟩))
  go_ret
  exact ⟨by first|rfl|(simp;done)|(simp [*];done),by repeat (first|exact Drawn0.refl _|apply Drawn0.step)⟩
 ·replace c4:=Bool.eq_false_iff.mpr c4
  subst c4
  have H1 : (some false)=some r:=by rw [if_neg (show ¬ (false=true) by decide)] at H;exact H
  clear H
  have H:=H1
  clear H1
  obtain rfl:=Option.some.inj H
  go_enter Try.func56,Try.ntmps56
  go_wp2_with (first|((with_reducible refine gate_callee (f:=77) rfl ?_);refine goesL_ (some 6) rfl rfl Try.func77 (by kernel_rfl) rfl #[.int .i64 a0,.int .i64 0,.int .i64 99999] rfl (by (try simp only [List.map_toArray,List.map_cons,List.map_nil]);first|done|rfl|(simp only [List.length_drop,List.length_take];rfl)) ?_;(with_reducible refine (impl_within.calls a0 0 99999 false _ A3.out).mono ?_);rintro e w' ⟨rfl,⟨nd,rfl⟩⟩;refine ⟨_,rfl,?_⟩))
  go_ret
  exact ⟨by first|rfl|(simp;done)|(simp [*];done),by repeat (first|exact Drawn0.refl _|apply Drawn0.step)⟩

/-! ### impl_isByte: function 86 -/
def impl_isByte.f (a0 : Int) : Option (Bool):=if a0 ≥ 0 then (some (decide (a0 ≤ 255))) else (some false)
set_option maxHeartbeats 8000000 in
set_option maxRecDepth 100000 in
theorem impl_isByte.calls (a0 : Int) (r : Bool) (w : World) (h : impl_isByte.f a0=some r) :
  Calls Try.prog 86 #[.int .i64 a0] w fun e w'=>e = .returned (.bool r)∧Drawn0 w w':=by
 have H : (if a0 ≥ 0 then (some (decide (a0 ≤ 255))) else (some false))=some r:=h
 clear h
 by_cases c2 : a0 ≥ 0
 ·rw [if_pos c2] at H
  have c2b0 : decide (0 ≤ a0)=true:=decide_eq_true c2
  clear c2
  obtain rfl:=Option.some.inj H
  go_enter Try.func86,Try.ntmps86
  go_wp2
  go_ret
  exact ⟨by first|rfl|(simp;done)|(simp [*];done),by repeat (first|exact Drawn0.refl _|apply Drawn0.step)⟩
 ·rw [if_neg c2] at H
  have c2b0 : decide (0 ≤ a0)=false:=decide_eq_false c2
  clear c2
  obtain rfl:=Option.some.inj H
  go_enter Try.func86,Try.ntmps86
  go_wp2
  go_ret
  exact ⟨by first|rfl|(simp;done)|(simp [*];done),by repeat (first|exact Drawn0.refl _|apply Drawn0.step)⟩

/-! ### impl_allBytes: function 60 -/
def impl_allBytes.l0 : Nat→List Int→Int→Int→Option (Bool)
 | 0,_,_,_=>none
 | k + 1,x5,x6,x7=>if x7 < x6 then (if 0 ≤ x7 then (if x7 < (x5.length : Int) then ((impl_isByte.f (rd x5 x7)).bind fun t230=>(if t230=true then (impl_allBytes.l0 k x5 x6 (wrap64 (x7 + 1))) else (some false))) else (none)) else (none)) else (some true)
def impl_allBytes.f (k : Nat) (l0 : List Int) : Option (Bool):=impl_allBytes.l0 k l0 (l0.length : Int) 0
theorem impl_allBytes.mono_l : ∀ k,(∀ y0 y1 y2,LeO (impl_allBytes.l0 k y0 y1 y2) (impl_allBytes.l0 (k + 1) y0 y1 y2))
 | 0=>fun _ _ _ r h=>by simp [impl_allBytes.l0] at h
 | k + 1=>by
  have ih0:=impl_allBytes.mono_l k
  ·intro y0 y1 y2
   unfold impl_allBytes.l0
   repeat' first
   | (with_reducible exact ih0 _ _ _)
   | (with_reducible exact LeO.refl _)
   | (with_reducible exact LeO.none _)
   | (with_reducible refine LeO.ite ?_ ?_)
   | (with_reducible refine LeO.bind ?_ (fun _=>?_))
   | exact ih0 _ _ _
   | exact LeO.none _
   | refine LeO.ite ?_ ?_
   | refine LeO.bind ?_ (fun _=>?_)
theorem impl_allBytes.mono : ∀ a0 k,LeO (impl_allBytes.f k a0) (impl_allBytes.f (k + 1) a0):=by
 intro a0 k
 have ih0:=impl_allBytes.mono_l k
 unfold impl_allBytes.f
 repeat' first
   | (with_reducible exact ih0 _ _ _)
   | (with_reducible exact LeO.refl _)
   | (with_reducible exact LeO.none _)
   | (with_reducible refine LeO.ite ?_ ?_)
   | (with_reducible refine LeO.bind ?_ (fun _=>?_))
   | exact ih0 _ _ _
   | exact LeO.none _
   | refine LeO.ite ?_ ?_
   | refine LeO.bind ?_ (fun _=>?_)
set_option maxHeartbeats 8000000 in
set_option maxRecDepth 100000 in
theorem impl_allBytes.calls (k : Nat) (A0 : Option Addr) (c0 : Nat) (l0 : List Int) (r : Bool) (w : World) (hr0 : Kd.C (Kd.int .i64) w A0 l0.length l0) (hc0 : l0.length ≤ c0) (h : impl_allBytes.f k l0=some r) :
  Calls Try.prog 60 #[.slice A0 l0.length c0] w fun e w'=>e = .returned (.bool r)∧Drawn0 w w':=by
 have HR0:=Aside0.mk hr0
 have HC0:=Aside0.mk hc0
 clear hr0 hc0
 have H : (impl_allBytes.l0 k l0 (l0.length : Int) 0)=some r:=h
 clear h
 have H':=Aside0.mk H
 clear H
 go_enter Try.func60,Try.ntmps60
 go_wp2
 go_loopg [7] k (fun kq v7 w'=>∃ (x7_1 : Int),v7 = .int .i64 x7_1∧Aside0 (impl_allBytes.l0 kq l0 (l0.length : Int) x7_1=some r)∧Aside0 (kq ≤ k)∧Drawn0 w w')
 case atStart=>exact ⟨(0),(by first|rfl|(simp;done)|(simp [*];done)),H',⟨Nat.le_refl _⟩,by repeat (first|exact Drawn0.refl _|apply Drawn0.step)⟩
 case round =>
  clear H'
  obtain ⟨x7_1,rfl,HA,HK1,⟨m1,rfl⟩⟩:=hrel
  cases gk with
  | zero=>exact absurd HA.out (by simp [impl_allBytes.l0])
  | succ k1 =>
   have H:=HA.out
   clear HA
   simp only [impl_allBytes.l0] at H
   by_cases c2 : x7_1 < (l0.length : Int)
   ·rw [if_pos c2] at H
    have c2b0 : decide (x7_1 < (l0.length : Int))=true:=decide_eq_true c2
    clear c2
    by_cases c3 : 0 ≤ x7_1
    ·rw [if_pos c3] at H
     have c3b0 : decide (0 ≤ x7_1)=true:=decide_eq_true c3
     clear c3
     by_cases c4 : x7_1 < (l0.length : Int)
     ·rw [if_pos c4] at H
      have c4b0 : decide (x7_1 < (l0.length : Int))=true:=decide_eq_true c4
      clear c4
      replace H:=Option.bind_eq_some_iff.mp H
      obtain ⟨t230,A50,H⟩:=H
      replace H : (if t230=true then (impl_allBytes.l0 k1 l0 (l0.length : Int) (wrap64 (x7_1 + 1))) else (some false))=some r:=H
      have A5:=Aside0.mk A50
      clear A50
      by_cases c6 : t230=true
      ·subst c6
       have H1 : (impl_allBytes.l0 k1 l0 (l0.length : Int) (wrap64 (x7_1 + 1)))=some r:=by rw [if_pos rfl] at H;exact H
       clear H
       have H:=H1
       clear H1
       have H':=Aside0.mk H
       clear H
       have p229 : 0 ≤ (x7_1 : Int):=of_decide_eq_true (by first|(with_reducible assumption)|assumption)
       have q229 : x7_1 < (l0.length : Int):=of_decide_eq_true (by first|(with_reducible assumption)|assumption)
       obtain ⟨ad229,e229,hx229_0⟩:=Kd.at_int HR0.out x7_1 p229 q229
       cases e229
       replace p229:=eq_true p229
       replace q229:=eq_true q229
       go_wp2_with (first|((with_reducible refine gate_callee (f:=86) rfl ?_);refine goesL_ (some 12) rfl rfl Try.func86 (by kernel_rfl) rfl #[.int .i64 (rd l0 x7_1)] rfl (by (try simp only [List.map_toArray,List.map_cons,List.map_nil]);first|done|rfl|(simp only [List.length_drop,List.length_take];rfl)) ?_;(with_reducible refine (impl_isByte.calls (rd l0 x7_1) true _ A5.out).mono ?_);rintro e w' ⟨rfl,⟨nd,rfl⟩⟩;refine ⟨_,rfl,?_⟩))
       go_roundg k1
       case measure=>have:=HK1.out;omega
       case rel=>exact ⟨(wrap64 (x7_1 + 1)),(by first|rfl|(simp;done)|(simp [*];done)),H',⟨by have:=HK1.out;omega⟩,by repeat (first|exact Drawn0.refl _|apply Drawn0.step)⟩
      ·replace c6:=Bool.eq_false_iff.mpr c6
       subst c6
       have H1 : (some false)=some r:=by rw [if_neg (show ¬ (false=true) by decide)] at H;exact H
       clear H
       have H:=H1
       clear H1
       obtain rfl:=Option.some.inj H
       have p229 : 0 ≤ (x7_1 : Int):=of_decide_eq_true (by first|(with_reducible assumption)|assumption)
       have q229 : x7_1 < (l0.length : Int):=of_decide_eq_true (by first|(with_reducible assumption)|assumption)
       obtain ⟨ad229,e229,hx229_0⟩:=Kd.at_int HR0.out x7_1 p229 q229
       cases e229
       replace p229:=eq_true p229
       replace q229:=eq_true q229
       go_wp2_with (first|((with_reducible refine gate_callee (f:=86) rfl ?_);refine goesL_ (some 12) rfl rfl Try.func86 (by kernel_rfl) rfl #[.int .i64 (rd l0 x7_1)] rfl (by (try simp only [List.map_toArray,List.map_cons,List.map_nil]);first|done|rfl|(simp only [List.length_drop,List.length_take];rfl)) ?_;(with_reducible refine (impl_isByte.calls (rd l0 x7_1) false _ A5.out).mono ?_);rintro e w' ⟨rfl,⟨nd,rfl⟩⟩;refine ⟨_,rfl,?_⟩))
       go_ret
       exact ⟨by first|rfl|(simp;done)|(simp [*];done),by repeat (first|exact Drawn0.refl _|apply Drawn0.step)⟩
     ·rw [if_neg c4] at H
      exact absurd H (by simp)
    ·rw [if_neg c3] at H
     exact absurd H (by simp)
   ·rw [if_neg c2] at H
    have c2b0 : decide (x7_1 < (l0.length : Int))=false:=decide_eq_false c2
    clear c2
    obtain rfl:=Option.some.inj H
    go_wp2
    go_ret
    exact ⟨by first|rfl|(simp;done)|(simp [*];done),by repeat (first|exact Drawn0.refl _|apply Drawn0.step)⟩

end Go.Proofs.Ytdgpkjjclngamaa.QFnBatchPart
