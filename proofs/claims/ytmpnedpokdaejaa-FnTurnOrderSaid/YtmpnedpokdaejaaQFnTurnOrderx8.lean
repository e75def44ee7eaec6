-- Written by this session's program wip/ownprint.py.
import Derived.Test.YtmpnedpokdaejaaQFnTurnOrderx0
import Derived.Test.YtmpnedpokdaejaaQFnTurnOrderx7
namespace Go.Proofs.Ytmpnedpokdaejaa.QFnTurnOrder
open Go.RowKit Go.Proofs.YtmpnedpokdaejaaW.PrintWords Go.Proofs.YtmpnedpokdaejaaW.PrintLast Go.Proofs.YtmpnedpokdaejaaW.PrintMore
attribute [local go_sem] max2_int min2_int max_two min_two max_three min_three max_four min_four   -- for this text's walks alone
set_option linter.unusedVariables false
set_option linter.unusedSimpArgs false

/-! ### spec_l91Part: function 73 -/
mutual
def spec_l91Part.j0 : Nat→List Int→Int→List Int→Int→Option (Bool × List Int × Int)
 | 0,_,_,_,_=>none
 | k + 1,x4,x5,x1000,x1001=>spec_l91Part.l0 k x4 x5 0 x1000 x1001
def spec_l91Part.l0 : Nat→List Int→Int→Int→List Int→Int→Option (Bool × List Int × Int)
 | 0,_,_,_,_,_=>none
 | k + 1,x4,x5,x6,x1000,x1001=>if x6 < x5 then ((spec_l6Rd_pick.f k x1000 x1001 256).bind fun bt229=>((some (([1,2,3,bt229.1] : List Int) : List Int)).bind fun y231=>((spec_l6Rd_pick.f k x1000 bt229.2 4).bind fun bt234=>(if 0 ≤ bt234.1 then (if bt234.1 < (y231.length : Int) then (if x4.length < 17592186044416 then (spec_l91Part.l0 k (x4 ++ [rd y231 bt234.1]) x5 (wrap64 (x6 + 1)) x1000 bt234.2) else (none)) else (none)) else (none))))) else (some (true,x4,x1001))
end
def spec_l91Part.f (k : Nat) (s0_0 : List Int) (s0_1 : Int) : Option (Bool × List Int × Int):=(spec_l6Rd_pick.f k s0_0 s0_1 4).bind fun bt217=>(if bt217.1=0 then (some (false,(([] : List Int)),bt217.2)) else ((some (([] : List Int) : List Int)).bind fun y222=>((spec_l6Rd_pick.f k s0_0 bt217.2 5).bind fun bt225=>((spec_l6Rd_pick.f k s0_0 bt225.2 12).bind fun bt227=>(if bt227.1=0 then (spec_l91Part.j0 k y222 12 s0_0 bt227.2) else (spec_l91Part.j0 k y222 bt225.1 s0_0 bt227.2))))))
theorem spec_l91Part.mono_l : ∀ k,(∀ y0 y1 y2 y3,LeO (spec_l91Part.j0 k y0 y1 y2 y3) (spec_l91Part.j0 (k + 1) y0 y1 y2 y3))∧(∀ y0 y1 y2 y3 y4,LeO (spec_l91Part.l0 k y0 y1 y2 y3 y4) (spec_l91Part.l0 (k + 1) y0 y1 y2 y3 y4))
 | 0=>⟨fun _ _ _ _ r h=>by simp [spec_l91Part.j0] at h,fun _ _ _ _ _ r h=>by simp [spec_l91Part.l0] at h⟩
 | k + 1=>by
  obtain ⟨ih0,ih1⟩:=spec_l91Part.mono_l k
  refine ⟨?_,?_⟩
  ·intro y0 y1 y2 y3
   unfold spec_l91Part.j0
   repeat' first
   | (with_reducible exact ih0 _ _ _ _)
   | (with_reducible exact ih1 _ _ _ _ _)
   | (with_reducible exact spec_l6Rd_pick.mono _ _ _ _)
   | (with_reducible exact LeO.refl _)
   | (with_reducible exact LeO.none _)
   | (with_reducible refine LeO.ite ?_ ?_)
   | (with_reducible refine LeO.bind ?_ (fun _=>?_))
   | exact ih0 _ _ _ _
   | exact ih1 _ _ _ _ _
   | exact spec_l6Rd_pick.mono _ _ _ _
   | exact LeO.none _
   | refine LeO.ite ?_ ?_
   | refine LeO.bind ?_ (fun _=>?_)
  ·intro y0 y1 y2 y3 y4
   unfold spec_l91Part.l0
   repeat' first
   | (with_reducible exact ih0 _ _ _ _)
   | (with_reducible exact ih1 _ _ _ _ _)
   | (with_reducible exact spec_l6Rd_pick.mono _ _ _ _)
   | (with_reducible exact LeO.refl _)
   | (with_reducible exact LeO.none _)
   | (with_reducible refine LeO.ite ?_ ?_)
   | (with_reducible refine LeO.bind ?_ (fun _=>?_))
   | exact ih0 _ _ _ _
   | exact ih1 _ _ _ _ _
   | exact spec_l6Rd_pick.mono _ _ _ _
   | exact LeO.none _
   | refine LeO.ite ?_ ?_
   | refine LeO.bind ?_ (fun _=>?_)
theorem spec_l91Part.mono : ∀ a0 a1 k,LeO (spec_l91Part.f k a0 a1) (spec_l91Part.f (k + 1) a0 a1):=by
 intro a0 a1 k
 obtain ⟨ih0,ih1⟩:=spec_l91Part.mono_l k
 unfold spec_l91Part.f
 repeat' first
   | (with_reducible exact ih0 _ _ _ _)
   | (with_reducible exact ih1 _ _ _ _ _)
   | (with_reducible exact spec_l6Rd_pick.mono _ _ _ _)
   | (with_reducible exact LeO.refl _)
   | (with_reducible exact LeO.none _)
   | (with_reducible refine LeO.ite ?_ ?_)
   | (with_reducible refine LeO.bind ?_ (fun _=>?_))
   | exact ih0 _ _ _ _
   | exact ih1 _ _ _ _ _
   | exact spec_l6Rd_pick.mono _ _ _ _
   | exact LeO.none _
   | refine LeO.ite ?_ ?_
   | refine LeO.bind ?_ (fun _=>?_)
set_option maxHeartbeats 8000000 in
set_option maxRecDepth 100000 in
theorem spec_l91Part.calls (k : Nat) (g : Nat) (s0_0 : List Int) (s0_1 : Int) (r1 : Bool) (r2 : List Int) (r3 : Int) (w0 w : World) (hI : IsS87 w0 w g s0_0 s0_1) (hB : Below w0.heap.size w0 w) (h : spec_l91Part.f k s0_0 s0_1=some (r1,r2,r3)) :
  Calls Try.prog 73 #[.pointer (some ⟨g,0,none⟩)] w fun e w'=>∃ v1_ : Value,e = .returned (.tuple #[.bool r1,v1_])∧Kd.R (Kd.int .i64) 3 w' w.heap.size (fun _=>True) v1_ r2∧IsS87 w0 w' g s0_0 r3∧Below w0.heap.size w0 w'∧KeepBut w w' g none:=by
 have HI0:=Aside0.mk hI
 have HK:=Aside0.mk (KeepBut.refl w g none)
 have HL:=Aside0.mk hB.size
 clear hI
 have HW0:=Aside0.mk hB.size
 have HB:=Aside0.mk hB
 clear hB
 have H : ((spec_l6Rd_pick.f k s0_0 s0_1 4).bind fun bt217=>(if bt217.1=0 then (some (false,(([] : List Int)),bt217.2)) else ((some (([] : List Int) : List Int)).bind fun y222=>((spec_l6Rd_pick.f k s0_0 bt217.2 5).bind fun bt225=>((spec_l6Rd_pick.f k s0_0 bt225.2 12).bind fun bt227=>(if bt227.1=0 then (spec_l91Part.j0 k y222 12 s0_0 bt227.2) else (spec_l91Part.j0 k y222 bt225.1 s0_0 bt227.2)))))))=some (r1,r2,r3):=h
 clear h
 replace H:=Option.bind_eq_some_iff.mp H
 obtain ⟨⟨t217,t218⟩,A20,H⟩:=H
 replace H : (if t217=0 then (some (false,(([] : List Int)),t218)) else ((some (([] : List Int) : List Int)).bind fun y222=>((spec_l6Rd_pick.f k s0_0 t218 5).bind fun bt225=>((spec_l6Rd_pick.f k s0_0 bt225.2 12).bind fun bt227=>(if bt227.1=0 then (spec_l91Part.j0 k y222 12 s0_0 bt227.2) else (spec_l91Part.j0 k y222 bt225.1 s0_0 bt227.2))))))=some (r1,r2,r3):=H
 have A2:=Aside0.mk A20
 clear A20
 by_cases c3 : t217=0
 ·rw [if_pos c3] at H
  have c3b0 : (t217 == 0)=true:=beq_iff_eq.mpr c3
  have c3b1 : (t217 != 0)=false:=bne_eq_false_iff_eq.mpr c3
  clear c3
  obtain ⟨y219,hy219⟩ : ∃ y_ : List Int,y_=(([] : List Int)):=⟨_,rfl⟩
  replace H : (some (false,y219,t218))=some (r1,r2,r3):=by first|(rw [hy219];with_reducible exact H)|(have H2_:=(Option.bind_some _ _).symm.trans H;rw [hy219];with_reducible exact H2_)|(have H2_:=(Option.bind_some _ _).symm.trans H;with_reducible exact H2_)|with_reducible exact H|(rw [hy219];exact H)|exact H
  have Ny219:=Aside0.mk hy219
  clear hy219
  simp only [Option.some.injEq,Prod.mk.injEq] at H
  obtain ⟨rfl,rfl,rfl⟩:=H
  go_enter Try.func73,Try.ntmps73
  go_wp2_with (first|((with_reducible refine gate_callee (f:=49) rfl ?_);refine goesL_ (some 8) rfl rfl Try.func49 (by kernel_rfl) rfl #[.pointer (some ⟨g,0,none⟩),.int .i64 4] rfl (by (try simp only [List.map_toArray,List.map_cons,List.map_nil]);first|done|rfl|(simp only [List.length_drop,List.length_take];rfl)) ?_;(with_reducible refine (spec_l6Rd_pick.calls k g s0_0 s0_1 4 t217 t218 w0 _ ?side1 ?side2 A2.out).mono ?_);(case side1=>repeat (first|(with_reducible first|exact HI0.out|apply IsS87.alloc|apply IsS87.drewN|apply IsS87.drew|apply IsS87.set_1)|exact HI0.out));(case side2=>repeat (first|(with_reducible first|exact HB.out|apply below_alloc|apply pw_below_drewN|apply below_drew1|refine below_set ?_ (IsS87.ge HI0.out))|exact HB.out));rintro e w4 ⟨rfl,hi,hb,hk⟩;refine ⟨_,rfl,?_⟩;have n0_:=Aside0.mk (KeepBut.trans (by repeat (first|(with_reducible first|exact HK.out|apply KeepBut.set_|apply keep_drewN|apply keep_drew|apply keep_alloc)|exact HK.out)) hk (.inl rfl));have n1_:=Aside0.mk (hb);have n2_:=Aside0.mk (hi);clear HK;clear HB;clear HI0;have HK:=n0_;have HB:=n1_;have HI0:=n2_;clear n0_ n1_ n2_;(try clear hb);(try clear hb2);(try clear hk);(try clear hi))|((with_reducible refine gate_dst (N:=10) rfl ?_);refine Kd.R_lit (Kd.int .i64) _ 3 ?hg (N:=10) ?hd (xs:=([] : List Int)) (inner:=[]) (ok:=fun _=>True) (okp:=fun _=>True) ?hr ?hp (fun _ hk=>hk) trivial (Below.refl _ _) (Nat.le_refl _) (by simp) ?_;(case hd=>rfl);(case hg=>rfl);(case hr=>first|(go_simp;done)|(go_simp;rfl));(case hp=>exact (Reps.none _ _));intro v220 w5 ho6 hb hg_ hnew_;clear hg_ hnew_;(first|rw [← Ny219.out] at ho6|(simp only [Int.reduceToNat] at ho6;rw [← Ny219.out] at ho6));have n0_:=Aside0.mk (Kd.R_lower ho6 (keep_size (w:=w) (g:=g) (row:=none) (by repeat (first|(with_reducible first|exact HK.out|apply KeepBut.set_|apply keep_drewN|apply keep_drew|apply keep_alloc)|exact HK.out))));have n1_:=Aside0.mk (IsS87.below (by repeat (first|(with_reducible first|exact HI0.out|apply IsS87.alloc|apply IsS87.drewN|apply IsS87.drew|apply IsS87.set_1)|exact HI0.out)) hb);have n2_:=Aside0.mk (KeepBut.trans (by repeat (first|(with_reducible first|exact HK.out|apply KeepBut.set_|apply keep_drewN|apply keep_drew|apply keep_alloc)|exact HK.out)) (KeepBut.of_below hb g none) (.inl rfl));have n3_:=Aside0.mk (below_step (by repeat (first|(with_reducible first|exact HB.out|apply below_alloc|apply pw_below_drewN|apply below_drew1|refine below_set ?_ (IsS87.ge HI0.out))|exact HB.out)) hb);clear HI0;clear HK;clear HB;have HO221:=n0_;have HI0:=n1_;have HK:=n2_;have HB:=n3_;clear n0_ n1_ n2_ n3_;clear hb ho6))
  go_ret2
  exact ⟨_,by first|rfl|(simp [errW_none,errW_some] <;> rfl)|(simp [*,errW_none,errW_some] <;> rfl),by (with_reducible repeat (first|apply Kd.R_alloc|apply Kd.R_drewN|apply Kd.R_drew));exact HO221.out,by repeat (first|(with_reducible first|exact HI0.out|apply IsS87.alloc|apply IsS87.drewN|apply IsS87.drew|apply IsS87.set_1)|exact HI0.out),by repeat (first|(with_reducible first|exact HB.out|apply below_alloc|apply pw_below_drewN|apply below_drew1|refine below_set ?_ (IsS87.ge HI0.out))|exact HB.out),by repeat (first|(with_reducible first|exact HK.out|apply KeepBut.set_|apply keep_drewN|apply keep_drew|apply keep_alloc)|exact HK.out)⟩
 ·rw [if_neg c3] at H
  have c3b0 : (t217 == 0)=false:=beq_eq_false_iff_ne.mpr c3
  have c3b1 : (t217 != 0)=true:=bne_iff_ne.mpr c3
  obtain ⟨y222,hy222⟩ : ∃ y_ : List Int,y_=(([] : List Int)):=⟨_,rfl⟩
  replace H : ((spec_l6Rd_pick.f k s0_0 t218 5).bind fun bt225=>((spec_l6Rd_pick.f k s0_0 bt225.2 12).bind fun bt227=>(if bt227.1=0 then (spec_l91Part.j0 k y222 12 s0_0 bt227.2) else (spec_l91Part.j0 k y222 bt225.1 s0_0 bt227.2))))=some (r1,r2,r3):=by first|(rw [hy222];with_reducible exact H)|(have H2_:=(Option.bind_some _ _).symm.trans H;rw [hy222];with_reducible exact H2_)|(have H2_:=(Option.bind_some _ _).symm.trans H;with_reducible exact H2_)|with_reducible exact H|(rw [hy222];exact H)|exact H
  have Ny222:=Aside0.mk hy222
  clear hy222
  replace H:=Option.bind_eq_some_iff.mp H
  obtain ⟨⟨t225,t226⟩,A70,H⟩:=H
  replace H : ((spec_l6Rd_pick.f k s0_0 t226 12).bind fun bt227=>(if bt227.1=0 then (spec_l91Part.j0 k y222 12 s0_0 bt227.2) else (spec_l91Part.j0 k y222 t225 s0_0 bt227.2)))=some (r1,r2,r3):=H
  have A7:=Aside0.mk A70
  clear A70
  replace H:=Option.bind_eq_some_iff.mp H
  obtain ⟨⟨t227,t228⟩,A80,H⟩:=H
  replace H : (if t227=0 then (spec_l91Part.j0 k y222 12 s0_0 t228) else (spec_l91Part.j0 k y222 t225 s0_0 t228))=some (r1,r2,r3):=H
  have A8:=Aside0.mk A80
  clear A80
  have HC9:=Aside0.mk H
  clear H
  go_enter Try.func73,Try.ntmps73
  go_upto_if 16 with (first|((with_reducible refine gate_callee (f:=49) rfl ?_);refine goesL_ (some 8) rfl rfl Try.func49 (by kernel_rfl) rfl #[.pointer (some ⟨g,0,none⟩),.int .i64 4] rfl (by (try simp only [List.map_toArray,List.map_cons,List.map_nil]);first|done|rfl|(simp only [List.length_drop,List.length_take];rfl)) ?_;(with_reducible refine (spec_l6Rd_pick.calls k g s0_0 s0_1 4 t217 t218 w0 _ ?side1 ?side2 A2.out).mono ?_);(case side1=>repeat (first|(with_reducible first|exact HI0.out|apply IsS87.alloc|apply IsS87.drewN|apply IsS87.drew|apply IsS87.set_1)|exact HI0.out));(case side2=>repeat (first|(with_reducible first|exact HB.out|apply below_alloc|apply pw_below_drewN|apply below_drew1|refine below_set ?_ (IsS87.ge HI0.out))|exact HB.out));rintro e w10 ⟨rfl,hi,hb,hk⟩;refine ⟨_,rfl,?_⟩;have n0_:=Aside0.mk (KeepBut.trans (by repeat (first|(with_reducible first|exact HK.out|apply KeepBut.set_|apply keep_drewN|apply keep_drew|apply keep_alloc)|exact HK.out)) hk (.inl rfl));have n1_:=Aside0.mk (hb);have n2_:=Aside0.mk (hi);clear HK;clear HB;clear HI0;have HK:=n0_;have HB:=n1_;have HI0:=n2_;clear n0_ n1_ n2_;(try clear hb);(try clear hb2);(try clear hk);(try clear hi))|((with_reducible refine gate_dst (N:=11) rfl ?_);refine Kd.R_lit (Kd.int .i64) _ 3 ?hg (N:=11) ?hd (xs:=([] : List Int)) (inner:=[]) (ok:=fun _=>True) (okp:=fun _=>True) ?hr ?hp (fun _ hk=>hk) trivial (Below.refl _ _) (Nat.le_refl _) (by simp) ?_;(case hd=>rfl);(case hg=>rfl);(case hr=>first|(go_simp;done)|(go_simp;rfl));(case hp=>exact (Reps.none _ _));intro v223 w11 ho12 hb hg_ hnew_;clear hg_ hnew_;(first|rw [← Ny222.out] at ho12|(simp only [Int.reduceToNat] at ho12;rw [← Ny222.out] at ho12));have n0_:=Aside0.mk (Kd.R_lower ho12 (keep_size (w:=w) (g:=g) (row:=none) (by repeat (first|(with_reducible first|exact HK.out|apply KeepBut.set_|apply keep_drewN|apply keep_drew|apply keep_alloc)|exact HK.out))));have n1_:=Aside0.mk (IsS87.below (by repeat (first|(with_reducible first|exact HI0.out|apply IsS87.alloc|apply IsS87.drewN|apply IsS87.drew|apply IsS87.set_1)|exact HI0.out)) hb);have n2_:=Aside0.mk (KeepBut.trans (by repeat (first|(with_reducible first|exact HK.out|apply KeepBut.set_|apply keep_drewN|apply keep_drew|apply keep_alloc)|exact HK.out)) (KeepBut.of_below hb g none) (.inl rfl));have n3_:=Aside0.mk (below_step (by repeat (first|(with_reducible first|exact HB.out|apply below_alloc|apply pw_below_drewN|apply below_drew1|refine below_set ?_ (IsS87.ge HI0.out))|exact HB.out)) hb);clear HI0;clear HK;clear HB;have HO224:=n0_;have HI0:=n1_;have HK:=n2_;have HB:=n3_;clear n0_ n1_ n2_ n3_;clear hb ho12)|((with_reducible refine gate_callee (f:=49) rfl ?_);refine goesL_ (some 13) rfl rfl Try.func49 (by kernel_rfl) rfl #[.pointer (some ⟨g,0,none⟩),.int .i64 5] rfl (by (try simp only [List.map_toArray,List.map_cons,List.map_nil]);first|done|rfl|(simp only [List.length_drop,List.length_take];rfl)) ?_;(with_reducible refine (spec_l6Rd_pick.calls k g s0_0 t218 5 t225 t226 w0 _ ?side1 ?side2 A7.out).mono ?_);(case side1=>repeat (first|(with_reducible first|exact HI0.out|apply IsS87.alloc|apply IsS87.drewN|apply IsS87.drew|apply IsS87.set_1)|exact HI0.out));(case side2=>repeat (first|(with_reducible first|exact HB.out|apply below_alloc|apply pw_below_drewN|apply below_drew1|refine below_set ?_ (IsS87.ge HI0.out))|exact HB.out));rintro e w13 ⟨rfl,hi,hb,hk⟩;refine ⟨_,rfl,?_⟩;have n0_:=Aside0.mk (Kd.R_mono (Kd.R_keep (IsS87.apart (show IsS87 w0 _ g s0_0 t218 from by repeat (first|(with_reducible first|exact HI0.out|apply IsS87.alloc|apply IsS87.drewN|apply IsS87.drew|apply IsS87.set_1)|exact HI0.out)) (by (with_reducible repeat (first|apply Kd.R_alloc|apply Kd.R_drewN|apply Kd.R_drew));exact HO224.out) (by decide)) hk (fun _ h=>h.2)) (fun _ h=>h.1));have n1_:=Aside0.mk (KeepBut.trans (by repeat (first|(with_reducible first|exact HK.out|apply KeepBut.set_|apply keep_drewN|apply keep_drew|apply keep_alloc)|exact HK.out)) hk (.inl rfl));have n2_:=Aside0.mk (hb);have n3_:=Aside0.mk (hi);clear HO224;clear HK;clear HB;clear HI0;have HO224:=n0_;have HK:=n1_;have HB:=n2_;have HI0:=n3_;clear n0_ n1_ n2_ n3_;(try clear hb);(try clear hb2);(try clear hk);(try clear hi))|((with_reducible refine gate_callee (f:=49) rfl ?_);refine goesL_ (some 15) rfl rfl Try.func49 (by kernel_rfl) rfl #[.pointer (some ⟨g,0,none⟩),.int .i64 12] rfl (by (try simp only [List.map_toArray,List.map_cons,List.map_nil]);first|done|rfl|(simp only [List.length_drop,List.length_take];rfl)) ?_;(with_reducible refine (spec_l6Rd_pick.calls k g s0_0 t226 12 t227 t228 w0 _ ?side1 ?side2 A8.out).mono ?_);(case side1=>repeat (first|(with_reducible first|exact HI0.out|apply IsS87.alloc|apply IsS87.drewN|apply IsS87.drew|apply IsS87.set_1)|exact HI0.out));(case side2=>repeat (first|(with_reducible first|exact HB.out|apply below_alloc|apply pw_below_drewN|apply below_drew1|refine below_set ?_ (IsS87.ge HI0.out))|exact HB.out));rintro e w14 ⟨rfl,hi,hb,hk⟩;refine ⟨_,rfl,?_⟩;have n0_:=Aside0.mk (Kd.R_mono (Kd.R_keep (IsS87.apart (show IsS87 w0 _ g s0_0 t226 from by repeat (first|(with_reducible first|exact HI0.out|apply IsS87.alloc|apply IsS87.drewN|apply IsS87.drew|apply IsS87.set_1)|exact HI0.out)) (by (with_reducible repeat (first|apply Kd.R_alloc|apply Kd.R_drewN|apply Kd.R_drew));exact HO224.out) (by decide)) hk (fun _ h=>h.2)) (fun _ h=>h.1));have n1_:=Aside0.mk (KeepBut.trans (by repeat (first|(with_reducible first|exact HK.out|apply KeepBut.set_|apply keep_drewN|apply keep_drew|apply keep_alloc)|exact HK.out)) hk (.inl rfl));have n2_:=Aside0.mk (hb);have n3_:=Aside0.mk (hi);clear HO224;clear HK;clear HB;clear HI0;have HO224:=n0_;have HK:=n1_;have HB:=n2_;have HI0:=n3_;clear n0_ n1_ n2_ n3_;(try clear hb);(try clear hb2);(try clear hk);(try clear hi)))
  (try simp only [Act.put,List.setIfInBounds_toArray,List.set_cons_zero,List.set_cons_succ])
  go_cut [5] (fun v5 wc=>∃ (kq : Nat) (x5_8 : Int),v5 = .int .i64 x5_8∧Aside0 (spec_l91Part.j0 kq y222 x5_8 s0_0 t228=some (r1,r2,r3))∧Aside0 (kq ≤ k)∧Aside0 (Kd.R (Kd.int .i64) 3 wc w.heap.size (fun _=>True) v223 y222)∧Aside0 (IsS87 w0 wc g s0_0 t228)∧Aside0 (KeepBut w wc g none)∧Aside0 (Below w0.heap.size w0 wc))
  case first =>
   have H:=HC9.out
   clear HC9
   by_cases c15 : t227=0
   ·rw [if_pos c15] at H
    have c15b0 : (t227 == 0)=true:=beq_iff_eq.mpr c15
    have c15b1 : (t227 != 0)=false:=bne_eq_false_iff_eq.mpr c15
    clear c15
    (first|rw [c15b0]|(simp only [i64_w,i32_w];rw [c15b0])|skip)
    have H':=Aside0.mk H
    clear H
    go_wp2
    go_meet
    case rel=>exact ⟨_,(12),(by first|rfl|(simp;done)|(simp [*];done)),H',⟨by first|omega|exact Nat.le_refl _⟩,⟨by (with_reducible repeat (first|apply Kd.R_alloc|apply Kd.R_drewN|apply Kd.R_drew));exact HO224.out⟩,⟨by repeat (first|(with_reducible first|exact HI0.out|apply IsS87.alloc|apply IsS87.drewN|apply IsS87.drew|apply IsS87.set_1)|exact HI0.out)⟩,⟨by repeat (first|(with_reducible first|exact HK.out|apply KeepBut.set_|apply keep_drewN|apply keep_drew|apply keep_alloc)|exact HK.out)⟩,⟨by repeat (first|(with_reducible first|exact HB.out|apply below_alloc|apply pw_below_drewN|apply below_drew1|refine below_set ?_ (IsS87.ge HI0.out))|exact HB.out)⟩⟩
   ·rw [if_neg c15] at H
    have c15b0 : (t227 == 0)=false:=beq_eq_false_iff_ne.mpr c15
    have c15b1 : (t227 != 0)=true:=bne_iff_ne.mpr c15
    (first|rw [c15b0]|(simp only [i64_w,i32_w];rw [c15b0])|skip)
    have H':=Aside0.mk H
    clear H
    go_wp2
    go_meet
    case rel=>exact ⟨_,(t225),(by first|rfl|(simp;done)|(simp [*];done)),H',⟨by first|omega|exact Nat.le_refl _⟩,⟨by (with_reducible repeat (first|apply Kd.R_alloc|apply Kd.R_drewN|apply Kd.R_drew));exact HO224.out⟩,⟨by repeat (first|(with_reducible first|exact HI0.out|apply IsS87.alloc|apply IsS87.drewN|apply IsS87.drew|apply IsS87.set_1)|exact HI0.out)⟩,⟨by repeat (first|(with_reducible first|exact HK.out|apply KeepBut.set_|apply keep_drewN|apply keep_drew|apply keep_alloc)|exact HK.out)⟩,⟨by repeat (first|(with_reducible first|exact HB.out|apply below_alloc|apply pw_below_drewN|apply below_drew1|refine below_set ?_ (IsS87.ge HI0.out))|exact HB.out)⟩⟩
  case rest =>
   clear HC9
   try clear c1
   try clear p2
   try clear c3
   try clear c3b0
   try clear c3b1
   try clear c4
   try clear c7
   try clear c15
   try clear c15b0
   try clear c15b1
   obtain ⟨kq,x5_8,rfl,HA,HJ8,HO_4,HI0,HK,HB⟩:=hcut
   cases kq with
   | zero=>exact absurd HA.out (by simp [spec_l91Part.j0])
   | succ kj8 =>
    have H:=HA.out
    clear HA
    simp only [spec_l91Part.j0] at H
    have H':=Aside0.mk H
    clear H
    go_wp2
    go_loopg [4,6] kj8 (fun kq v4 v6 w'=>∃ (x4_2 : List Int) (x6_2 : Int) (x1001_2 : Int),v6 = .int .i64 x6_2∧Aside0 (spec_l91Part.l0 kq x4_2 x5_8 x6_2 s0_0 x1001_2=some (r1,r2,r3))∧Aside0 (kq ≤ kj8)∧Aside0 (Kd.R (Kd.int .i64) 3 w' w.heap.size (fun _=>True) v4 x4_2)∧Aside0 (IsS87 w0 w' g s0_0 x1001_2)∧Aside0 (KeepBut w w' g none)∧Aside0 (Below w0.heap.size w0 w'))
    case atStart=>exact ⟨(y222),(0),(t228),(by first|rfl|(simp;done)|(simp [*];done)),H',⟨Nat.le_refl _⟩,⟨by (with_reducible repeat (first|apply Kd.R_alloc|apply Kd.R_drewN|apply Kd.R_drew));exact HO_4.out⟩,⟨by repeat (first|(with_reducible first|exact HI0.out|apply IsS87.alloc|apply IsS87.drewN|apply IsS87.drew|apply IsS87.set_1)|exact HI0.out)⟩,⟨by repeat (first|(with_reducible first|exact HK.out|apply KeepBut.set_|apply keep_drewN|apply keep_drew|apply keep_alloc)|exact HK.out)⟩,⟨by repeat (first|(with_reducible first|exact HB.out|apply below_alloc|apply pw_below_drewN|apply below_drew1|refine below_set ?_ (IsS87.ge HI0.out))|exact HB.out)⟩⟩
    case round =>
     clear H'
     try clear c1
     try clear p2
     try clear c3
     try clear c3b0
     try clear c3b1
     try clear c4
     try clear c7
     try clear c15
     try clear c15b0
     try clear c15b1
     try clear p2
     obtain ⟨x4_2,x6_2,x1001_2,rfl,HA,HK2,HO_4,HI0,HK,HB⟩:=hrel
     cases gk with
     | zero=>exact absurd HA.out (by simp [spec_l91Part.l0])
     | succ k2 =>
      have H:=HA.out
      clear HA
      simp only [spec_l91Part.l0] at H
      by_cases c16 : x6_2 < x5_8
      ·rw [if_pos c16] at H
       have c16b0 : decide (x6_2 < x5_8)=true:=decide_eq_true c16
       clear c16
       replace H:=Option.bind_eq_some_iff.mp H
       obtain ⟨⟨t229,t230⟩,A170,H⟩:=H
       replace H : ((some (([1,2,3,t229] : List Int) : List Int)).bind fun y231=>((spec_l6Rd_pick.f k2 s0_0 t230 4).bind fun bt234=>(if 0 ≤ bt234.1 then (if bt234.1 < (y231.length : Int) then (if x4_2.length < 17592186044416 then (spec_l91Part.l0 k2 (x4_2 ++ [rd y231 bt234.1]) x5_8 (wrap64 (x6_2 + 1)) s0_0 bt234.2) else (none)) else (none)) else (none))))=some (r1,r2,r3):=H
       have A17:=Aside0.mk A170
       clear A170
       obtain ⟨y231,hy231⟩ : ∃ y_ : List Int,y_=(([1,2,3,t229] : List Int)):=⟨_,rfl⟩
       replace H : ((spec_l6Rd_pick.f k2 s0_0 t230 4).bind fun bt234=>(if 0 ≤ bt234.1 then (if bt234.1 < (y231.length : Int) then (if x4_2.length < 17592186044416 then (spec_l91Part.l0 k2 (x4_2 ++ [rd y231 bt234.1]) x5_8 (wrap64 (x6_2 + 1)) s0_0 bt234.2) else (none)) else (none)) else (none)))=some (r1,r2,r3):=by first|(rw [hy231];with_reducible exact H)|(have H2_:=(Option.bind_some _ _).symm.trans H;rw [hy231];with_reducible exact H2_)|(have H2_:=(Option.bind_some _ _).symm.trans H;with_reducible exact H2_)|with_reducible exact H|(rw [hy231];exact H)|exact H
       have Ny231:=Aside0.mk hy231
       clear hy231
       replace H:=Option.bind_eq_some_iff.mp H
       obtain ⟨⟨t234,t235⟩,A180,H⟩:=H
       replace H : (if 0 ≤ t234 then (if t234 < (y231.length : Int) then (if x4_2.length < 17592186044416 then (spec_l91Part.l0 k2 (x4_2 ++ [rd y231 t234]) x5_8 (wrap64 (x6_2 + 1)) s0_0 t235) else (none)) else (none)) else (none))=some (r1,r2,r3):=H
       have A18:=Aside0.mk A180
       clear A180
       by_cases c19 : 0 ≤ t234
       ·rw [if_pos c19] at H
        have c19b0 : decide (0 ≤ t234)=true:=decide_eq_true c19
        clear c19
        by_cases c20 : t234 < (y231.length : Int)
        ·rw [if_pos c20] at H
         have c20b0 : decide (t234 < (y231.length : Int))=true:=decide_eq_true c20
         clear c20
         by_cases c21 : x4_2.length < 17592186044416
         ·rw [if_pos c21] at H
          have LMc21:=Aside0.mk c21
          clear c21
          obtain ⟨y237,hy237⟩ : ∃ y_ : List Int,y_=(x4_2 ++ [rd y231 t234]):=⟨_,rfl⟩
          replace H : (spec_l91Part.l0 k2 y237 x5_8 (wrap64 (x6_2 + 1)) s0_0 t235)=some (r1,r2,r3):=by first|(rw [hy237];with_reducible exact H)|(have H2_:=(Option.bind_some _ _).symm.trans H;rw [hy237];with_reducible exact H2_)|(have H2_:=(Option.bind_some _ _).symm.trans H;with_reducible exact H2_)|with_reducible exact H|(rw [hy237];exact H)|exact H
          have Ny237:=Aside0.mk hy237
          clear hy237
          have H':=Aside0.mk H
          clear H
          go_wp2_with (first|((with_reducible refine gate_callee (f:=49) rfl ?_);refine goesL_ (some 24) rfl rfl Try.func49 (by kernel_rfl) rfl #[.pointer (some ⟨g,0,none⟩),.int .i64 256] rfl (by (try simp only [List.map_toArray,List.map_cons,List.map_nil]);first|done|rfl|(simp only [List.length_drop,List.length_take];rfl)) ?_;(with_reducible refine (spec_l6Rd_pick.calls k2 g s0_0 x1001_2 256 t229 t230 w0 _ ?side1 ?side2 A17.out).mono ?_);(case side1=>repeat (first|(with_reducible first|exact HI0.out|apply IsS87.alloc|apply IsS87.drewN|apply IsS87.drew|apply IsS87.set_1)|exact HI0.out));(case side2=>repeat (first|(with_reducible first|exact HB.out|apply below_alloc|apply pw_below_drewN|apply below_drew1|refine below_set ?_ (IsS87.ge HI0.out))|exact HB.out));rintro e w22 ⟨rfl,hi,hb,hk⟩;refine ⟨_,rfl,?_⟩;have n0_:=Aside0.mk (Kd.R_mono (Kd.R_keep (IsS87.apart (show IsS87 w0 _ g s0_0 x1001_2 from by repeat (first|(with_reducible first|exact HI0.out|apply IsS87.alloc|apply IsS87.drewN|apply IsS87.drew|apply IsS87.set_1)|exact HI0.out)) (by (with_reducible repeat (first|apply Kd.R_alloc|apply Kd.R_drewN|apply Kd.R_drew));exact HO_4.out) (by decide)) hk (fun _ h=>h.2)) (fun _ h=>h.1));have n1_:=Aside0.mk (KeepBut.trans (by repeat (first|(with_reducible first|exact HK.out|apply KeepBut.set_|apply keep_drewN|apply keep_drew|apply keep_alloc)|exact HK.out)) hk (.inl rfl));have n2_:=Aside0.mk (hb);have n3_:=Aside0.mk (hi);clear HO_4;clear HK;clear HB;clear HI0;have HO_4:=n0_;have HK:=n1_;have HB:=n2_;have HI0:=n3_;clear n0_ n1_ n2_ n3_;(try clear hb);(try clear hb2);(try clear hk);(try clear hi))|((with_reducible refine gate_dst (N:=25) rfl ?_);refine Kd.R_lit (Kd.int .i64) _ 3 ?hg (N:=25) ?hd (xs:=([1,2,3,t229] : List Int)) (inner:=[.int .i64 1,.int .i64 2,.int .i64 3,.int .i64 t229]) (ok:=fun _=>True) (okp:=fun _=>True) ?hr ?hp (fun _ hk=>hk) trivial (Below.refl _ _) (Nat.le_refl _) (by simp) ?_;(case hd=>rfl);(case hg=>rfl);(case hr=>first|(go_simp;done)|(go_simp;rfl));(case hp=>exact (Reps.one (show Kd.M (Kd.int .i64) _ _ _ 1 [.int .i64 1] from rfl) (Reps.one (show Kd.M (Kd.int .i64) _ _ _ 2 [.int .i64 2] from rfl) (Reps.one (show Kd.M (Kd.int .i64) _ _ _ 3 [.int .i64 3] from rfl) (Reps.one (show Kd.M (Kd.int .i64) _ _ _ t229 [.int .i64 t229] from rfl) (Reps.none _ _))))));intro v232 w23 ho24 hb hg_ hnew_;clear hg_ hnew_;(first|rw [← Ny231.out] at ho24|(simp only [Int.reduceToNat] at ho24;rw [← Ny231.out] at ho24));have n0_:=Aside0.mk (Kd.R_elder' (by (with_reducible repeat (first|apply Kd.R_alloc|apply Kd.R_drewN|apply Kd.R_drew));exact HO_4.out) (Kd.R_base ho24) hb);have n1_:=Aside0.mk (Kd.R_lower (Kd.R_new' ho24 (Kd.R_lt (by (with_reducible repeat (first|apply Kd.R_alloc|apply Kd.R_drewN|apply Kd.R_drew));exact HO_4.out))) (keep_size (w:=w) (g:=g) (row:=none) (by repeat (first|(with_reducible first|exact HK.out|apply KeepBut.set_|apply keep_drewN|apply keep_drew|apply keep_alloc)|exact HK.out))));have n2_:=Aside0.mk (IsS87.below (by repeat (first|(with_reducible first|exact HI0.out|apply IsS87.alloc|apply IsS87.drewN|apply IsS87.drew|apply IsS87.set_1)|exact HI0.out)) hb);have n3_:=Aside0.mk (KeepBut.trans (by repeat (first|(with_reducible first|exact HK.out|apply KeepBut.set_|apply keep_drewN|apply keep_drew|apply keep_alloc)|exact HK.out)) (KeepBut.of_below hb g none) (.inl rfl));have n4_:=Aside0.mk (below_step (by repeat (first|(with_reducible first|exact HB.out|apply below_alloc|apply pw_below_drewN|apply below_drew1|refine below_set ?_ (IsS87.ge HI0.out))|exact HB.out)) hb);clear HO_4;clear HI0;clear HK;clear HB;have HO_4:=n0_;have HO233:=n1_;have HI0:=n2_;have HK:=n3_;have HB:=n4_;clear n0_ n1_ n2_ n3_ n4_;clear hb ho24)|((with_reducible refine gate_callee (f:=49) rfl ?_);refine goesL_ (some 27) rfl rfl Try.func49 (by kernel_rfl) rfl #[.pointer (some ⟨g,0,none⟩),.int .i64 4] rfl (by (try simp only [List.map_toArray,List.map_cons,List.map_nil]);first|done|rfl|(simp only [List.length_drop,List.length_take];rfl)) ?_;(with_reducible refine (spec_l6Rd_pick.calls k2 g s0_0 t230 4 t234 t235 w0 _ ?side1 ?side2 A18.out).mono ?_);(case side1=>repeat (first|(with_reducible first|exact HI0.out|apply IsS87.alloc|apply IsS87.drewN|apply IsS87.drew|apply IsS87.set_1)|exact HI0.out));(case side2=>repeat (first|(with_reducible first|exact HB.out|apply below_alloc|apply pw_below_drewN|apply below_drew1|refine below_set ?_ (IsS87.ge HI0.out))|exact HB.out));rintro e w25 ⟨rfl,hi,hb,hk⟩;refine ⟨_,rfl,?_⟩;have n0_:=Aside0.mk (Kd.R_mono (Kd.R_keep (IsS87.apart (show IsS87 w0 _ g s0_0 t230 from by repeat (first|(with_reducible first|exact HI0.out|apply IsS87.alloc|apply IsS87.drewN|apply IsS87.drew|apply IsS87.set_1)|exact HI0.out)) (by (with_reducible repeat (first|apply Kd.R_alloc|apply Kd.R_drewN|apply Kd.R_drew));exact HO_4.out) (by decide)) hk (fun _ h=>h.2)) (fun _ h=>h.1));have n1_:=Aside0.mk (Kd.R_mono (Kd.R_keep (IsS87.apart (show IsS87 w0 _ g s0_0 t230 from by repeat (first|(with_reducible first|exact HI0.out|apply IsS87.alloc|apply IsS87.drewN|apply IsS87.drew|apply IsS87.set_1)|exact HI0.out)) (by (with_reducible repeat (first|apply Kd.R_alloc|apply Kd.R_drewN|apply Kd.R_drew));exact HO233.out) (by decide)) hk (fun _ h=>h.2)) (fun _ h=>h.1));have n2_:=Aside0.mk (KeepBut.trans (by repeat (first|(with_reducible first|exact HK.out|apply KeepBut.set_|apply keep_drewN|apply keep_drew|apply keep_alloc)|exact HK.out)) hk (.inl rfl));have n3_:=Aside0.mk (hb);have n4_:=Aside0.mk (hi);clear HO_4;clear HO233;clear HK;clear HB;clear HI0;have HO_4:=n0_;have HO233:=n1_;have HK:=n2_;have HB:=n3_;have HI0:=n4_;clear n0_ n1_ n2_ n3_ n4_;(try clear hb);(try clear hb2);(try clear hk);(try clear hi);obtain ⟨Ao26,co26,eo26⟩:=Kd.R_slice HO233.out;subst eo26;have p236 : 0 ≤ (t234 : Int):=of_decide_eq_true (by first|(with_reducible assumption)|assumption);have q236 : t234 < (y231.length : Int):=of_decide_eq_true (by first|(with_reducible assumption)|assumption);obtain ⟨ad236,e236,hx236_0⟩:=Kd.at_int (Kd.R_reads' HO233.out).2.2 t234 p236 q236;cases e236;replace p236:=eq_true p236;replace q236:=eq_true q236)|((with_reducible refine gate_builtin (b:=.append) (xs:=#[.tmp 22,.tmp 30]) rfl ?_);at_builtin;refine Kd.R_append (Kd.int .i64) w.heap.size rfl (.tmp 22) (.tmp 30) 23 3 (.int .i64 0) 8 rfl Try.underlying23 info3 rfl (by decide) (by omega) u4 x4_2 (rd y231 t234) [.int .i64 (rd y231 t234)] (fun k_=>some k_ ≠ (.slice (some ad236) y231.length co26 : Value).ownBlock) (fun _=>False) rfl rfl ?aP (fun _ hk=>hk.elim) ?aF ?aO (Below.refl _ _) ?aS ?aL ?_;(case aP=>exact rfl);(case aF=>exact (fun k_ hk=>Kd.fresh' (Kd.R_lt (by (with_reducible repeat (first|apply Kd.R_alloc|apply Kd.R_drewN|apply Kd.R_drew));exact HO233.out)) k_ hk));(case aO=>exact (by (with_reducible repeat (first|apply Kd.R_alloc|apply Kd.R_drewN|apply Kd.R_drew));exact Kd.R_mono HO_4.out (fun _ hk=>hk.2)));(case aS=>exact (keep_size (w:=w) (g:=g) (row:=none) (by repeat (first|(with_reducible first|exact HK.out|apply KeepBut.set_|apply keep_drewN|apply keep_drew|apply keep_alloc)|exact HK.out))));(case aL=>have:=LMc21.out;omega);intro v238 w27 ho hb hg hat;rw [← Ny237.out] at ho;have n0_:=Aside0.mk (IsS87.grown (by repeat (first|(with_reducible first|exact HI0.out|apply IsS87.alloc|apply IsS87.drewN|apply IsS87.drew|apply IsS87.set_1)|exact HI0.out)) hg (IsS87.own_ne HI0.out HO_4.out (by decide)));have n1_:=Aside0.mk (Kd.R_after (ok:=(fun _=>True)) (by (with_reducible repeat (first|apply Kd.R_alloc|apply Kd.R_drewN|apply Kd.R_drew));exact HO233.out) hg hat);have n2_:=Aside0.mk (below_weaken (by repeat (first|(with_reducible first|exact HB.out|apply below_alloc|apply pw_below_drewN|apply below_drew1|refine below_set ?_ (IsS87.ge HI0.out))|exact HB.out)) HL.out hb);have n3_:=Aside0.mk (KeepBut.trans (by repeat (first|(with_reducible first|exact HK.out|apply KeepBut.set_|apply keep_drewN|apply keep_drew|apply keep_alloc)|exact HK.out)) (KeepBut.of_grown hg g) (Kd.R_base2 HO_4.out));have n4_:=Aside0.mk (ho);clear HI0;clear HO233;clear HB;clear HK;clear HO_4;have HI0:=n0_;have HO233:=n1_;have HB:=n2_;have HK:=n3_;have HO239:=n4_;clear n0_ n1_ n2_ n3_ n4_;clear ho hb hg hat))
          go_roundg k2
          case measure=>have:=HJ8.out;have:=HK2.out;omega
          case rel=>exact ⟨(y237),(wrap64 (x6_2 + 1)),(t235),(by first|rfl|(simp;done)|(simp [*];done)),H',⟨by have:=HJ8.out;have:=HK2.out;omega⟩,⟨by (with_reducible repeat (first|apply Kd.R_alloc|apply Kd.R_drewN|apply Kd.R_drew));exact Kd.R_mono HO239.out (fun _ hk=>trivial)⟩,⟨by repeat (first|(with_reducible first|exact HI0.out|apply IsS87.alloc|apply IsS87.drewN|apply IsS87.drew|apply IsS87.set_1)|exact HI0.out)⟩,⟨by repeat (first|(with_reducible first|exact HK.out|apply KeepBut.set_|apply keep_drewN|apply keep_drew|apply keep_alloc)|exact HK.out)⟩,⟨by repeat (first|(with_reducible first|exact HB.out|apply below_alloc|apply pw_below_drewN|apply below_drew1|refine below_set ?_ (IsS87.ge HI0.out))|exact HB.out)⟩⟩
         ·rw [if_neg c21] at H
          exact absurd H (by simp)
        ·rw [if_neg c20] at H
         exact absurd H (by simp)
       ·rw [if_neg c19] at H
        exact absurd H (by simp)
      ·rw [if_neg c16] at H
       have c16b0 : decide (x6_2 < x5_8)=false:=decide_eq_false c16
       clear c16
       simp only [Option.some.injEq,Prod.mk.injEq] at H
       obtain ⟨rfl,rfl,rfl⟩:=H
       go_wp2
       go_ret2
       exact ⟨_,by first|rfl|(simp [errW_none,errW_some] <;> rfl)|(simp [*,errW_none,errW_some] <;> rfl),by (with_reducible repeat (first|apply Kd.R_alloc|apply Kd.R_drewN|apply Kd.R_drew));exact HO_4.out,by repeat (first|(with_reducible first|exact HI0.out|apply IsS87.alloc|apply IsS87.drewN|apply IsS87.drew|apply IsS87.set_1)|exact HI0.out),by repeat (first|(with_reducible first|exact HB.out|apply below_alloc|apply pw_below_drewN|apply below_drew1|refine below_set ?_ (IsS87.ge HI0.out))|exact HB.out),by repeat (first|(with_reducible first|exact HK.out|apply KeepBut.set_|apply keep_drewN|apply keep_drew|apply keep_alloc)|exact HK.out)⟩

/-! ### spec_l91Old: function 48 -/
def spec_l91Old.j0 : Nat→List Int→Int→Int→Bool→Int→Bool→Bool→Option (Int × Bool × Int × List Int × List Int × Bool × Bool × Int)
 | 0,_,_,_,_,_,_,_=>none
 | k + 1,x1000,x1001,x244000,x244001,x244002,x244005,x244006=>(spec_l91Part.f k x1000 x1001).bind fun bt248=>((spec_l91Part.f k x1000 bt248.2.2).bind fun bt253=>((spec_l6Rd_pick.f k x1000 bt253.2.2 40).bind fun bt258=>(if bt258.1=0 then (some (x244000, !x244001,x244002,bt248.2.1,bt253.2.1,bt248.1, !bt253.1,bt258.2)) else (if bt258.1=1 then ((some (([(-1),99999,100000] : List Int) : List Int)).bind fun y260=>((spec_l6Rd_pick.f k x1000 bt258.2 3).bind fun bt263=>(if 0 ≤ bt263.1 then (if bt263.1 < (y260.length : Int) then (some (rd y260 bt263.1,x244001,x244002,bt248.2.1,bt253.2.1,bt248.1, !bt253.1,bt263.2)) else (none)) else (none)))) else (some (x244000,x244001,x244002,bt248.2.1,bt253.2.1,bt248.1, !bt253.1,bt258.2))))))
def spec_l91Old.f (k : Nat) (s0_0 : List Int) (s0_1 : Int) (a1 : Int) : Option (Int × Bool × Int × List Int × List Int × Bool × Bool × Int):=(spec_l6Rd_pick.f k s0_0 s0_1 2).bind fun bt241=>(if bt241.1=0 then ((spec_l6Rd_pick.f k s0_0 bt241.2 250).bind fun bt244=>((spec_l6Rd_pick.f k s0_0 bt244.2 2).bind fun bt246=>(spec_l91Old.j0 k s0_0 bt246.2 a1 (bt241.1 == 0) (wrap64 (bt244.1 * (wrap64 (1 + (wrap64 (bt246.1 * 300)))))) false false))) else (spec_l91Old.j0 k s0_0 bt241.2 a1 (bt241.1 == 0) 0 false false))
theorem spec_l91Old.mono_l : ∀ k,(∀ y0 y1 y2 y3 y4 y5 y6,LeO (spec_l91Old.j0 k y0 y1 y2 y3 y4 y5 y6) (spec_l91Old.j0 (k + 1) y0 y1 y2 y3 y4 y5 y6))
 | 0=>fun _ _ _ _ _ _ _ r h=>by simp [spec_l91Old.j0] at h
 | k + 1=>by
  have ih0:=spec_l91Old.mono_l k
  ·intro y0 y1 y2 y3 y4 y5 y6
   unfold spec_l91Old.j0
   repeat' first
   | (with_reducible exact ih0 _ _ _ _ _ _ _)
   | (with_reducible exact spec_l6Rd_pick.mono _ _ _ _)
   | (with_reducible exact spec_l91Part.mono _ _ _)
   | (with_reducible exact LeO.refl _)
   | (with_reducible exact LeO.none _)
   | (with_reducible refine LeO.ite ?_ ?_)
   | (with_reducible refine LeO.bind ?_ (fun _=>?_))
   | exact ih0 _ _ _ _ _ _ _
   | exact spec_l6Rd_pick.mono _ _ _ _
   | exact spec_l91Part.mono _ _ _
   | exact LeO.none _
   | refine LeO.ite ?_ ?_
   | refine LeO.bind ?_ (fun _=>?_)
theorem spec_l91Old.mono : ∀ a0 a1 a2 k,LeO (spec_l91Old.f k a0 a1 a2) (spec_l91Old.f (k + 1) a0 a1 a2):=by
 intro a0 a1 a2 k
 have ih0:=spec_l91Old.mono_l k
 unfold spec_l91Old.f
 repeat' first
   | (with_reducible exact ih0 _ _ _ _ _ _ _)
   | (with_reducible exact spec_l6Rd_pick.mono _ _ _ _)
   | (with_reducible exact spec_l91Part.mono _ _ _)
   | (with_reducible exact LeO.refl _)
   | (with_reducible exact LeO.none _)
   | (with_reducible refine LeO.ite ?_ ?_)
   | (with_reducible refine LeO.bind ?_ (fun _=>?_))
   | exact ih0 _ _ _ _ _ _ _
   | exact spec_l6Rd_pick.mono _ _ _ _
   | exact spec_l91Part.mono _ _ _
   | exact LeO.none _
   | refine LeO.ite ?_ ?_
   | refine LeO.bind ?_ (fun _=>?_)
set_option maxHeartbeats 8000000 in
set_option maxRecDepth 100000 in
theorem spec_l91Old.calls (k : Nat) (g : Nat) (s0_0 : List Int) (s0_1 : Int) (a1 : Int) (r1 : Int) (r2 : Bool) (r3 : Int) (r4 : List Int) (r5 : List Int) (r6 : Bool) (r7 : Bool) (r8 : Int) (w0 w : World) (hI : IsS87 w0 w g s0_0 s0_1) (hB : Below w0.heap.size w0 w) (h : spec_l91Old.f k s0_0 s0_1 a1=some (r1,r2,r3,r4,r5,r6,r7,r8)) :
  Calls Try.prog 48 #[.pointer (some ⟨g,0,none⟩),.int .i64 a1] w fun e w'=>∃ v3_ v4_ : Value,e = .returned (.agg #[.int .i64 r1,.bool r2,.int .i64 r3,v3_,v4_,.bool r6,.bool r7])∧Kd.R (Kd.int .i64) 3 w' w.heap.size (fun k_=>some k_ ≠ (v4_ : Value).ownBlock) v3_ r4∧Kd.R (Kd.int .i64) 3 w' w.heap.size (fun k_=>some k_ ≠ (v3_ : Value).ownBlock) v4_ r5∧IsS87 w0 w' g s0_0 r8∧Below w0.heap.size w0 w'∧KeepBut w w' g none:=by
 have hu26:=Try.underlying26
 have HI0:=Aside0.mk hI
 have HK:=Aside0.mk (KeepBut.refl w g none)
 have HL:=Aside0.mk hB.size
 clear hI
 have HW0:=Aside0.mk hB.size
 have HB:=Aside0.mk hB
 clear hB
 have H : ((spec_l6Rd_pick.f k s0_0 s0_1 2).bind fun bt241=>(if bt241.1=0 then ((spec_l6Rd_pick.f k s0_0 bt241.2 250).bind fun bt244=>((spec_l6Rd_pick.f k s0_0 bt244.2 2).bind fun bt246=>(spec_l91Old.j0 k s0_0 bt246.2 a1 (bt241.1 == 0) (wrap64 (bt244.1 * (wrap64 (1 + (wrap64 (bt246.1 * 300)))))) false false))) else (spec_l91Old.j0 k s0_0 bt241.2 a1 (bt241.1 == 0) 0 false false)))=some (r1,r2,r3,r4,r5,r6,r7,r8):=h
 clear h
 replace H:=Option.bind_eq_some_iff.mp H
 obtain ⟨⟨t241,t242⟩,A30,H⟩:=H
 replace H : (if t241=0 then ((spec_l6Rd_pick.f k s0_0 t242 250).bind fun bt244=>((spec_l6Rd_pick.f k s0_0 bt244.2 2).bind fun bt246=>(spec_l91Old.j0 k s0_0 bt246.2 a1 (t241 == 0) (wrap64 (bt244.1 * (wrap64 (1 + (wrap64 (bt246.1 * 300)))))) false false))) else (spec_l91Old.j0 k s0_0 t242 a1 (t241 == 0) 0 false false))=some (r1,r2,r3,r4,r5,r6,r7,r8):=H
 have A3:=Aside0.mk A30
 clear A30
 have HC4:=Aside0.mk H
 clear H
 go_enter Try.func48,Try.ntmps48
 go_upto_if 16 with (first|((with_reducible refine gate_dst (N:=4) rfl ?_);refine box_event ?hg (N:=4) ?hd (cs:=#[.int .i64 0,.bool false,.int .i64 0,.slice none 0 0,.slice none 0 0,.bool false,.bool false]) (t:=26) ?hr ?_;(case hd=>rfl);(case hg=>rfl);(case hr=>first|(go_simp;done)|(go_simp;rfl));intro gb240 hg w5 hbox hb;have n0_:=Aside0.mk (IsS87.below (by repeat (first|(with_reducible first|exact HI0.out|apply IsS87.alloc|apply IsS87.drewN|apply IsS87.drew|apply IsS87.set_1)|exact HI0.out)) hb);have n1_:=Aside0.mk (KeepBut.trans (by repeat (first|(with_reducible first|exact HK.out|apply KeepBut.set_|apply keep_drewN|apply keep_drew|apply keep_alloc)|exact HK.out)) (KeepBut.of_below hb g none) (.inl rfl));have n2_:=Aside0.mk (below_step (by repeat (first|(with_reducible first|exact HB.out|apply below_alloc|apply pw_below_drewN|apply below_drew1|refine below_set ?_ (IsS87.ge HI0.out))|exact HB.out)) hb);have n3_:=Aside0.mk (hbox);have n4_:=Aside0.mk ((by rw [hg];exact (keep_size (w:=w) (g:=g) (row:=none) (by repeat (first|(with_reducible first|exact HK.out|apply KeepBut.set_|apply keep_drewN|apply keep_drew|apply keep_alloc)|exact HK.out))) : w.heap.size ≤ gb240));have n5_:=Aside0.mk ((Nat.le_trans HW0.out (by rw [hg];exact (keep_size (w:=w) (g:=g) (row:=none) (by repeat (first|(with_reducible first|exact HK.out|apply KeepBut.set_|apply keep_drewN|apply keep_drew|apply keep_alloc)|exact HK.out))) : w.heap.size ≤ gb240) : w0.heap.size ≤ gb240));have n6_:=Aside0.mk ((by rw [hg];exact Nat.ne_of_lt (IsS87.lt (show IsS87 w0 _ g s0_0 s0_1 from by repeat (first|(with_reducible first|exact HI0.out|apply IsS87.alloc|apply IsS87.drewN|apply IsS87.drew|apply IsS87.set_1)|exact HI0.out))) : g ≠ gb240));have n7_:=Aside0.mk ((by rw [hg];exact Nat.ne_of_gt (IsS87.lt (show IsS87 w0 _ g s0_0 s0_1 from by repeat (first|(with_reducible first|exact HI0.out|apply IsS87.alloc|apply IsS87.drewN|apply IsS87.drew|apply IsS87.set_1)|exact HI0.out))) : gb240 ≠ g));clear HI0;clear HK;clear HB;have HI0:=n0_;have HK:=n1_;have HB:=n2_;have BK240:=n3_;have GW240:=n4_;have GE240:=n5_;have NB0_240:=n6_;have NB240_0:=n7_;clear n0_ n1_ n2_ n3_ n4_ n5_ n6_ n7_;clear hb hbox hg)|((with_reducible refine gate_callee (f:=49) rfl ?_);refine goesL_ (some 12) rfl rfl Try.func49 (by kernel_rfl) rfl #[.pointer (some ⟨g,0,none⟩),.int .i64 2] rfl (by (try simp only [List.map_toArray,List.map_cons,List.map_nil]);first|done|rfl|(simp only [List.length_drop,List.length_take];rfl)) ?_;(with_reducible refine (spec_l6Rd_pick.calls k g s0_0 s0_1 2 t241 t242 w0 _ ?side1 ?side2 A3.out).mono ?_);(case side1=>repeat (first|(with_reducible first|exact HI0.out|apply IsS87.alloc|apply IsS87.drewN|apply IsS87.drew|apply IsS87.set_1|refine IsS87.far ?_ NB0_240.out _)|exact HI0.out));(case side2=>repeat (first|(with_reducible first|exact HB.out|apply below_alloc|apply pw_below_drewN|apply below_drew1|refine below_set ?_ (IsS87.ge HI0.out)|refine below_set ?_ GE240.out)|exact HB.out));rintro e w6 ⟨rfl,hi,hb,hk⟩;refine ⟨_,rfl,?_⟩;have n0_:=Aside0.mk (KeepBut.blk hk (g':=gb240) (o:=.cells #[.int .i64 0,.bool false,.int .i64 0,.slice none 0 0,.slice none 0 0,.bool false,.bool false] 26 (0,0)) (by (with_reducible repeat (first|refine blk_drewN ?_ _|refine blk_drew ?_|refine blk_alloc ?_ _));exact BK240.out) NB240_0.out (by simp));have n1_:=Aside0.mk (KeepBut.trans (by repeat (first|(with_reducible first|exact HK.out|apply KeepBut.set_|apply keep_drewN|apply keep_drew|apply keep_alloc|refine keep_far ?_ GW240.out _)|exact HK.out)) hk (.inl rfl));have n2_:=Aside0.mk (hb);have n3_:=Aside0.mk (hi);clear BK240;clear HK;clear HB;clear HI0;have BK240:=n0_;have HK:=n1_;have HB:=n2_;have HI0:=n3_;clear n0_ n1_ n2_ n3_;(try clear hb);(try clear hb2);(try clear hk);(try clear hi))|((with_reducible refine gate_dst (N:=5) rfl ?_);refine box_event ?hg (N:=5) ?hd (cs:=#[.int .i64 0,.bool false,.int .i64 0,.slice none 0 0,.slice none 0 0,.bool false,.bool false]) (t:=26) ?hr ?_;(case hd=>rfl);(case hg=>rfl);(case hr=>first|(go_simp;done)|(go_simp;rfl));intro gb243 hg w7 hbox hb;have n0_:=Aside0.mk (IsS87.below (by repeat (first|(with_reducible first|exact HI0.out|apply IsS87.alloc|apply IsS87.drewN|apply IsS87.drew|apply IsS87.set_1|refine IsS87.far ?_ NB0_240.out _)|exact HI0.out)) hb);have n1_:=Aside0.mk (blk_below (g:=gb240) (o:=.cells #[.int .i64 0,.bool false,.int .i64 0,.slice none 0 0,.slice none 0 0,.bool false,.bool false] 26 (0,0)) (by (with_reducible repeat (first|refine blk_drewN ?_ _|refine blk_drew ?_|refine blk_alloc ?_ _));exact BK240.out) hb);have n2_:=Aside0.mk (KeepBut.trans (by repeat (first|(with_reducible first|exact HK.out|apply KeepBut.set_|apply keep_drewN|apply keep_drew|apply keep_alloc|refine keep_far ?_ GW240.out _)|exact HK.out)) (KeepBut.of_below hb g none) (.inl rfl));have n3_:=Aside0.mk (below_step (by repeat (first|(with_reducible first|exact HB.out|apply below_alloc|apply pw_below_drewN|apply below_drew1|refine below_set ?_ (IsS87.ge HI0.out)|refine below_set ?_ GE240.out)|exact HB.out)) hb);have n4_:=Aside0.mk (hbox);have n5_:=Aside0.mk ((by rw [hg];exact (keep_size (w:=w) (g:=g) (row:=none) (by repeat (first|(with_reducible first|exact HK.out|apply KeepBut.set_|apply keep_drewN|apply keep_drew|apply keep_alloc|refine keep_far ?_ GW240.out _)|exact HK.out))) : w.heap.size ≤ gb243));have n6_:=Aside0.mk ((Nat.le_trans HW0.out (by rw [hg];exact (keep_size (w:=w) (g:=g) (row:=none) (by repeat (first|(with_reducible first|exact HK.out|apply KeepBut.set_|apply keep_drewN|apply keep_drew|apply keep_alloc|refine keep_far ?_ GW240.out _)|exact HK.out))) : w.heap.size ≤ gb243) : w0.heap.size ≤ gb243));have n7_:=Aside0.mk ((by rw [hg];exact Nat.ne_of_lt (blk_lt (g:=gb240) (o:=.cells #[.int .i64 0,.bool false,.int .i64 0,.slice none 0 0,.slice none 0 0,.bool false,.bool false] 26 (0,0)) (by (with_reducible repeat (first|refine blk_drewN ?_ _|refine blk_drew ?_|refine blk_alloc ?_ _));exact BK240.out)) : gb240 ≠ gb243));have n8_:=Aside0.mk ((by rw [hg];exact Nat.ne_of_gt (blk_lt (g:=gb240) (o:=.cells #[.int .i64 0,.bool false,.int .i64 0,.slice none 0 0,.slice none 0 0,.bool false,.bool false] 26 (0,0)) (by (with_reducible repeat (first|refine blk_drewN ?_ _|refine blk_drew ?_|refine blk_alloc ?_ _));exact BK240.out)) : gb243 ≠ gb240));have n9_:=Aside0.mk ((by rw [hg];exact Nat.ne_of_lt (IsS87.lt (show IsS87 w0 _ g s0_0 t242 from by repeat (first|(with_reducible first|exact HI0.out|apply IsS87.alloc|apply IsS87.drewN|apply IsS87.drew|apply IsS87.set_1|refine IsS87.far ?_ NB0_240.out _)|exact HI0.out))) : g ≠ gb243));have n10_:=Aside0.mk ((by rw [hg];exact Nat.ne_of_gt (IsS87.lt (show IsS87 w0 _ g s0_0 t242 from by repeat (first|(with_reducible first|exact HI0.out|apply IsS87.alloc|apply IsS87.drewN|apply IsS87.drew|apply IsS87.set_1|refine IsS87.far ?_ NB0_240.out _)|exact HI0.out))) : gb243 ≠ g));clear HI0;clear BK240;clear HK;clear HB;have HI0:=n0_;have BK240:=n1_;have HK:=n2_;have HB:=n3_;have BK243:=n4_;have GW243:=n5_;have GE243:=n6_;have NB240_243:=n7_;have NB243_240:=n8_;have NB0_243:=n9_;have NB243_0:=n10_;clear n0_ n1_ n2_ n3_ n4_ n5_ n6_ n7_ n8_ n9_ n10_;clear hb hbox hg;have hnb8:=NB243_240.out;have hnc8:=NB240_243.out;have hnb9:=NB243_0.out;have hnc9:=NB0_243.out;have hcz10_0 : w7.cell? ⟨gb243,0,none⟩ = some (.int .i64 0):=(blk_cell BK243.out 0).trans rfl;have hcz10_1 : w7.cell? ⟨gb243,1,none⟩ = some (.bool false):=(blk_cell BK243.out 1).trans rfl;have hcz10_2 : w7.cell? ⟨gb243,2,none⟩ = some (.int .i64 0):=(blk_cell BK243.out 2).trans rfl;have hcz10_3 : w7.cell? ⟨gb243,3,none⟩ = some (.slice none 0 0):=(blk_cell BK243.out 3).trans rfl;have hcz10_4 : w7.cell? ⟨gb243,4,none⟩ = some (.slice none 0 0):=(blk_cell BK243.out 4).trans rfl;have hcz10_5 : w7.cell? ⟨gb243,5,none⟩ = some (.bool false):=(blk_cell BK243.out 5).trans rfl;have hcz10_6 : w7.cell? ⟨gb243,6,none⟩ = some (.bool false):=(blk_cell BK243.out 6).trans rfl;have hfz10_0:=blk_frozen BK243.out 0;have hfz10_1:=blk_frozen BK243.out 1;have hfz10_2:=blk_frozen BK243.out 2;have hfz10_3:=blk_frozen BK243.out 3;have hfz10_4:=blk_frozen BK243.out 4;have hfz10_5:=blk_frozen BK243.out 5;have hfz10_6:=blk_frozen BK243.out 6))
 (try simp only [Act.put,List.setIfInBounds_toArray,List.set_cons_zero,List.set_cons_succ])
 go_cut [] (fun wc=>∃ (kq : Nat) (x1001_3 : Int) (x244002_3 : Int),Aside0 (spec_l91Old.j0 kq s0_0 x1001_3 a1 (t241 == 0) x244002_3 false false=some (r1,r2,r3,r4,r5,r6,r7,r8))∧Aside0 (kq ≤ k)∧Aside0 (wc.heap[gb240]? = some (.cells #[.int .i64 0,.bool false,.int .i64 0,(.slice none 0 0),(.slice none 0 0),.bool false,.bool false] 26 (0,0)))∧Aside0 (wc.heap[gb243]? = some (.cells #[.int .i64 a1,.bool (t241 == 0),.int .i64 x244002_3,(.slice none 0 0),(.slice none 0 0),.bool false,.bool false] 26 (0,0)))∧Aside0 (IsS87 w0 wc g s0_0 x1001_3)∧Aside0 (KeepBut w wc g none)∧Aside0 (Below w0.heap.size w0 wc))
 case first =>
  have H:=HC4.out
  clear HC4
  by_cases c11 : t241=0
  ·rw [if_pos c11] at H
   have c11b0 : (t241 == 0)=true:=beq_iff_eq.mpr c11
   have c11b1 : (t241 != 0)=false:=bne_eq_false_iff_eq.mpr c11
   (try rw [c11b0] at H)
   clear c11
   (first|rw [c11b0]|(simp only [i64_w,i32_w];rw [c11b0])|skip)
   replace H:=Option.bind_eq_some_iff.mp H
   obtain ⟨⟨t244,t245⟩,A120,H⟩:=H
   replace H : ((spec_l6Rd_pick.f k s0_0 t245 2).bind fun bt246=>(spec_l91Old.j0 k s0_0 bt246.2 a1 true (wrap64 (t244 * (wrap64 (1 + (wrap64 (bt246.1 * 300)))))) false false))=some (r1,r2,r3,r4,r5,r6,r7,r8):=H
   have A12:=Aside0.mk A120
   clear A120
   replace H:=Option.bind_eq_some_iff.mp H
   obtain ⟨⟨t246,t247⟩,A130,H⟩:=H
   replace H : (spec_l91Old.j0 k s0_0 t247 a1 true (wrap64 (t244 * (wrap64 (1 + (wrap64 (t246 * 300)))))) false false)=some (r1,r2,r3,r4,r5,r6,r7,r8):=H
   have A13:=Aside0.mk A130
   clear A130
   have H':=Aside0.mk H
   clear H
   go_wp2_with (first|((with_reducible refine gate_callee (f:=49) rfl ?_);refine goesL_ (some 18) rfl rfl Try.func49 (by kernel_rfl) rfl #[.pointer (some ⟨g,0,none⟩),.int .i64 250] rfl (by (try simp only [List.map_toArray,List.map_cons,List.map_nil]);first|done|rfl|(simp only [List.length_drop,List.length_take];rfl)) ?_;(with_reducible refine (spec_l6Rd_pick.calls k g s0_0 t242 250 t244 t245 w0 _ ?side1 ?side2 A12.out).mono ?_);(case side1=>repeat (first|(with_reducible first|exact HI0.out|apply IsS87.alloc|apply IsS87.drewN|apply IsS87.drew|apply IsS87.set_1|refine IsS87.far ?_ NB0_240.out _|refine IsS87.far ?_ NB0_243.out _)|exact HI0.out));(case side2=>repeat (first|(with_reducible first|exact HB.out|apply below_alloc|apply pw_below_drewN|apply below_drew1|refine below_set ?_ (IsS87.ge HI0.out)|refine below_set ?_ GE240.out|refine below_set ?_ GE243.out)|exact HB.out));rintro e w14 ⟨rfl,hi,hb,hk⟩;refine ⟨_,rfl,?_⟩;have n0_:=Aside0.mk (KeepBut.blk hk (g':=gb240) (o:=.cells #[.int .i64 0,.bool false,.int .i64 0,.slice none 0 0,.slice none 0 0,.bool false,.bool false] 26 (0,0)) (by (with_reducible repeat (first|refine blk_drewN ?_ _|refine blk_drew ?_|refine blk_alloc ?_ _));refine blk_far ?_ NB240_243.out _;(with_reducible repeat (first|refine blk_drewN ?_ _|refine blk_drew ?_|refine blk_alloc ?_ _));refine blk_far ?_ NB240_243.out _;(with_reducible repeat (first|refine blk_drewN ?_ _|refine blk_drew ?_|refine blk_alloc ?_ _));refine blk_far ?_ NB240_243.out _;(with_reducible repeat (first|refine blk_drewN ?_ _|refine blk_drew ?_|refine blk_alloc ?_ _));refine blk_far ?_ NB240_243.out _;(with_reducible repeat (first|refine blk_drewN ?_ _|refine blk_drew ?_|refine blk_alloc ?_ _));refine blk_far ?_ NB240_243.out _;(with_reducible repeat (first|refine blk_drewN ?_ _|refine blk_drew ?_|refine blk_alloc ?_ _));refine blk_far ?_ NB240_243.out _;(with_reducible repeat (first|refine blk_drewN ?_ _|refine blk_drew ?_|refine blk_alloc ?_ _));refine blk_far ?_ NB240_243.out _;(with_reducible repeat (first|refine blk_drewN ?_ _|refine blk_drew ?_|refine blk_alloc ?_ _));exact BK240.out) NB240_0.out (by simp));have n1_:=Aside0.mk (KeepBut.blk hk (g':=gb243) (o:=.cells #[.int .i64 a1,.bool true,.int .i64 0,.slice none 0 0,.slice none 0 0,.bool false,.bool false] 26 (0,0)) (by (with_reducible repeat (first|refine blk_drewN ?_ _|refine blk_drew ?_|refine blk_alloc ?_ _));refine blk_put (cs:=#[.int .i64 a1,.bool true,.int .i64 0,.slice none 0 0,.slice none 0 0,.bool false,.bool false]) ?_ 6 _ rfl;(with_reducible repeat (first|refine blk_drewN ?_ _|refine blk_drew ?_|refine blk_alloc ?_ _));refine blk_put (cs:=#[.int .i64 a1,.bool true,.int .i64 0,.slice none 0 0,.slice none 0 0,.bool false,.bool false]) ?_ 5 _ rfl;(with_reducible repeat (first|refine blk_drewN ?_ _|refine blk_drew ?_|refine blk_alloc ?_ _));refine blk_put (cs:=#[.int .i64 a1,.bool true,.int .i64 0,.slice none 0 0,.slice none 0 0,.bool false,.bool false]) ?_ 4 _ rfl;(with_reducible repeat (first|refine blk_drewN ?_ _|refine blk_drew ?_|refine blk_alloc ?_ _));refine blk_put (cs:=#[.int .i64 a1,.bool true,.int .i64 0,.slice none 0 0,.slice none 0 0,.bool false,.bool false]) ?_ 3 _ rfl;(with_reducible repeat (first|refine blk_drewN ?_ _|refine blk_drew ?_|refine blk_alloc ?_ _));refine blk_put (cs:=#[.int .i64 a1,.bool true,.int .i64 0,.slice none 0 0,.slice none 0 0,.bool false,.bool false]) ?_ 2 _ rfl;(with_reducible repeat (first|refine blk_drewN ?_ _|refine blk_drew ?_|refine blk_alloc ?_ _));refine blk_put (cs:=#[.int .i64 a1,.bool false,.int .i64 0,.slice none 0 0,.slice none 0 0,.bool false,.bool false]) ?_ 1 _ rfl;(with_reducible repeat (first|refine blk_drewN ?_ _|refine blk_drew ?_|refine blk_alloc ?_ _));refine blk_put (cs:=#[.int .i64 0,.bool false,.int .i64 0,.slice none 0 0,.slice none 0 0,.bool false,.bool false]) ?_ 0 _ rfl;(with_reducible repeat (first|refine blk_drewN ?_ _|refine blk_drew ?_|refine blk_alloc ?_ _));exact BK243.out) NB243_0.out (by simp));have n2_:=Aside0.mk (KeepBut.trans (by repeat (first|(with_reducible first|exact HK.out|apply KeepBut.set_|apply keep_drewN|apply keep_drew|apply keep_alloc|refine keep_far ?_ GW240.out _|refine keep_far ?_ GW243.out _)|exact HK.out)) hk (.inl rfl));have n3_:=Aside0.mk (hb);have n4_:=Aside0.mk (hi);clear BK240;clear BK243;clear HK;clear HB;clear HI0;have BK240:=n0_;have BK243:=n1_;have HK:=n2_;have HB:=n3_;have HI0:=n4_;clear n0_ n1_ n2_ n3_ n4_;(try clear hb);(try clear hb2);(try clear hk);(try clear hi))|((with_reducible refine gate_callee (f:=49) rfl ?_);refine goesL_ (some 20) rfl rfl Try.func49 (by kernel_rfl) rfl #[.pointer (some ⟨g,0,none⟩),.int .i64 2] rfl (by (try simp only [List.map_toArray,List.map_cons,List.map_nil]);first|done|rfl|(simp only [List.length_drop,List.length_take];rfl)) ?_;(with_reducible refine (spec_l6Rd_pick.calls k g s0_0 t245 2 t246 t247 w0 _ ?side1 ?side2 A13.out).mono ?_);(case side1=>repeat (first|(with_reducible first|exact HI0.out|apply IsS87.alloc|apply IsS87.drewN|apply IsS87.drew|apply IsS87.set_1|refine IsS87.far ?_ NB0_240.out _|refine IsS87.far ?_ NB0_243.out _)|exact HI0.out));(case side2=>repeat (first|(with_reducible first|exact HB.out|apply below_alloc|apply pw_below_drewN|apply below_drew1|refine below_set ?_ (IsS87.ge HI0.out)|refine below_set ?_ GE240.out|refine below_set ?_ GE243.out)|exact HB.out));rintro e w15 ⟨rfl,hi,hb,hk⟩;refine ⟨_,rfl,?_⟩;have n0_:=Aside0.mk (KeepBut.blk hk (g':=gb240) (o:=.cells #[.int .i64 0,.bool false,.int .i64 0,.slice none 0 0,.slice none 0 0,.bool false,.bool false] 26 (0,0)) (by (with_reducible repeat (first|refine blk_drewN ?_ _|refine blk_drew ?_|refine blk_alloc ?_ _));exact BK240.out) NB240_0.out (by simp));have n1_:=Aside0.mk (KeepBut.blk hk (g':=gb243) (o:=.cells #[.int .i64 a1,.bool true,.int .i64 0,.slice none 0 0,.slice none 0 0,.bool false,.bool false] 26 (0,0)) (by (with_reducible repeat (first|refine blk_drewN ?_ _|refine blk_drew ?_|refine blk_alloc ?_ _));exact BK243.out) NB243_0.out (by simp));have n2_:=Aside0.mk (KeepBut.trans (by repeat (first|(with_reducible first|exact HK.out|apply KeepBut.set_|apply keep_drewN|apply keep_drew|apply keep_alloc|refine keep_far ?_ GW240.out _|refine keep_far ?_ GW243.out _)|exact HK.out)) hk (.inl rfl));have n3_:=Aside0.mk (hb);have n4_:=Aside0.mk (hi);clear BK240;clear BK243;clear HK;clear HB;clear HI0;have BK240:=n0_;have BK243:=n1_;have HK:=n2_;have HB:=n3_;have HI0:=n4_;clear n0_ n1_ n2_ n3_ n4_;(try clear hb);(try clear hb2);(try clear hk);(try clear hi);have hnb16:=NB243_240.out;have hnc16:=NB240_243.out;have hnb17:=NB243_0.out;have hnc17:=NB0_243.out;have hcz18_0 : w15.cell? ⟨gb243,0,none⟩ = some (.int .i64 a1):=(blk_cell BK243.out 0).trans rfl;have hcz18_1 : w15.cell? ⟨gb243,1,none⟩ = some (.bool true):=(blk_cell BK243.out 1).trans rfl;have hcz18_2 : w15.cell? ⟨gb243,2,none⟩ = some (.int .i64 0):=(blk_cell BK243.out 2).trans rfl;have hcz18_3 : w15.cell? ⟨gb243,3,none⟩ = some (.slice none 0 0):=(blk_cell BK243.out 3).trans rfl;have hcz18_4 : w15.cell? ⟨gb243,4,none⟩ = some (.slice none 0 0):=(blk_cell BK243.out 4).trans rfl;have hcz18_5 : w15.cell? ⟨gb243,5,none⟩ = some (.bool false):=(blk_cell BK243.out 5).trans rfl;have hcz18_6 : w15.cell? ⟨gb243,6,none⟩ = some (.bool false):=(blk_cell BK243.out 6).trans rfl;have hfz18_0:=blk_frozen BK243.out 0;have hfz18_1:=blk_frozen BK243.out 1;have hfz18_2:=blk_frozen BK243.out 2;have hfz18_3:=blk_frozen BK243.out 3;have hfz18_4:=blk_frozen BK243.out 4;have hfz18_5:=blk_frozen BK243.out 5;have hfz18_6:=blk_frozen BK243.out 6))
   go_meet
   case rel=>(try rw [c11b0]);exact ⟨_,(t247),(wrap64 (t244 * (wrap64 (1 + (wrap64 (t246 * 300)))))),H',⟨by first|omega|exact Nat.le_refl _⟩,⟨by (with_reducible repeat (first|refine blk_drewN ?_ _|refine blk_drew ?_|refine blk_alloc ?_ _));refine blk_far ?_ NB240_243.out _;(with_reducible repeat (first|refine blk_drewN ?_ _|refine blk_drew ?_|refine blk_alloc ?_ _));exact BK240.out⟩,⟨by (with_reducible repeat (first|refine blk_drewN ?_ _|refine blk_drew ?_|refine blk_alloc ?_ _));refine blk_put (cs:=#[.int .i64 a1,.bool true,.int .i64 0,.slice none 0 0,.slice none 0 0,.bool false,.bool false]) ?_ 2 _ rfl;(with_reducible repeat (first|refine blk_drewN ?_ _|refine blk_drew ?_|refine blk_alloc ?_ _));exact BK243.out⟩,⟨by repeat (first|(with_reducible first|exact HI0.out|apply IsS87.alloc|apply IsS87.drewN|apply IsS87.drew|apply IsS87.set_1|refine IsS87.far ?_ NB0_240.out _|refine IsS87.far ?_ NB0_243.out _)|exact HI0.out)⟩,⟨by repeat (first|(with_reducible first|exact HK.out|apply KeepBut.set_|apply keep_drewN|apply keep_drew|apply keep_alloc|refine keep_far ?_ GW240.out _|refine keep_far ?_ GW243.out _)|exact HK.out)⟩,⟨by repeat (first|(with_reducible first|exact HB.out|apply below_alloc|apply pw_below_drewN|apply below_drew1|refine below_set ?_ (IsS87.ge HI0.out)|refine below_set ?_ GE240.out|refine below_set ?_ GE243.out)|exact HB.out)⟩⟩
  ·rw [if_neg c11] at H
   have c11b0 : (t241 == 0)=false:=beq_eq_false_iff_ne.mpr c11
   have c11b1 : (t241 != 0)=true:=bne_iff_ne.mpr c11
   (try rw [c11b0] at H)
   (first|rw [c11b0]|(simp only [i64_w,i32_w];rw [c11b0])|skip)
   have H':=Aside0.mk H
   clear H
   go_wp2
   go_meet
   case rel=>(try rw [c11b0]);exact ⟨_,(t242),(0),H',⟨by first|omega|exact Nat.le_refl _⟩,⟨by (with_reducible repeat (first|refine blk_drewN ?_ _|refine blk_drew ?_|refine blk_alloc ?_ _));refine blk_far ?_ NB240_243.out _;(with_reducible repeat (first|refine blk_drewN ?_ _|refine blk_drew ?_|refine blk_alloc ?_ _));refine blk_far ?_ NB240_243.out _;(with_reducible repeat (first|refine blk_drewN ?_ _|refine blk_drew ?_|refine blk_alloc ?_ _));refine blk_far ?_ NB240_243.out _;(with_reducible repeat (first|refine blk_drewN ?_ _|refine blk_drew ?_|refine blk_alloc ?_ _));refine blk_far ?_ NB240_243.out _;(with_reducible repeat (first|refine blk_drewN ?_ _|refine blk_drew ?_|refine blk_alloc ?_ _));refine blk_far ?_ NB240_243.out _;(with_reducible repeat (first|refine blk_drewN ?_ _|refine blk_drew ?_|refine blk_alloc ?_ _));refine blk_far ?_ NB240_243.out _;(with_reducible repeat (first|refine blk_drewN ?_ _|refine blk_drew ?_|refine blk_alloc ?_ _));refine blk_far ?_ NB240_243.out _;(with_reducible repeat (first|refine blk_drewN ?_ _|refine blk_drew ?_|refine blk_alloc ?_ _));exact BK240.out⟩,⟨by (with_reducible repeat (first|refine blk_drewN ?_ _|refine blk_drew ?_|refine blk_alloc ?_ _));refine blk_put (cs:=#[.int .i64 a1,.bool false,.int .i64 0,.slice none 0 0,.slice none 0 0,.bool false,.bool false]) ?_ 6 _ rfl;(with_reducible repeat (first|refine blk_drewN ?_ _|refine blk_drew ?_|refine blk_alloc ?_ _));refine blk_put (cs:=#[.int .i64 a1,.bool false,.int .i64 0,.slice none 0 0,.slice none 0 0,.bool false,.bool false]) ?_ 5 _ rfl;(with_reducible repeat (first|refine blk_drewN ?_ _|refine blk_drew ?_|refine blk_alloc ?_ _));refine blk_put (cs:=#[.int .i64 a1,.bool false,.int .i64 0,.slice none 0 0,.slice none 0 0,.bool false,.bool false]) ?_ 4 _ rfl;(with_reducible repeat (first|refine blk_drewN ?_ _|refine blk_drew ?_|refine blk_alloc ?_ _));refine blk_put (cs:=#[.int .i64 a1,.bool false,.int .i64 0,.slice none 0 0,.slice none 0 0,.bool false,.bool false]) ?_ 3 _ rfl;(with_reducible repeat (first|refine blk_drewN ?_ _|refine blk_drew ?_|refine blk_alloc ?_ _));refine blk_put (cs:=#[.int .i64 a1,.bool false,.int .i64 0,.slice none 0 0,.slice none 0 0,.bool false,.bool false]) ?_ 2 _ rfl;(with_reducible repeat (first|refine blk_drewN ?_ _|refine blk_drew ?_|refine blk_alloc ?_ _));refine blk_put (cs:=#[.int .i64 a1,.bool false,.int .i64 0,.slice none 0 0,.slice none 0 0,.bool false,.bool false]) ?_ 1 _ rfl;(with_reducible repeat (first|refine blk_drewN ?_ _|refine blk_drew ?_|refine blk_alloc ?_ _));refine blk_put (cs:=#[.int .i64 0,.bool false,.int .i64 0,.slice none 0 0,.slice none 0 0,.bool false,.bool false]) ?_ 0 _ rfl;(with_reducible repeat (first|refine blk_drewN ?_ _|refine blk_drew ?_|refine blk_alloc ?_ _));exact BK243.out⟩,⟨by repeat (first|(with_reducible first|exact HI0.out|apply IsS87.alloc|apply IsS87.drewN|apply IsS87.drew|apply IsS87.set_1|refine IsS87.far ?_ NB0_240.out _|refine IsS87.far ?_ NB0_243.out _)|exact HI0.out)⟩,⟨by repeat (first|(with_reducible first|exact HK.out|apply KeepBut.set_|apply keep_drewN|apply keep_drew|apply keep_alloc|refine keep_far ?_ GW240.out _|refine keep_far ?_ GW243.out _)|exact HK.out)⟩,⟨by repeat (first|(with_reducible first|exact HB.out|apply below_alloc|apply pw_below_drewN|apply below_drew1|refine below_set ?_ (IsS87.ge HI0.out)|refine below_set ?_ GE240.out|refine below_set ?_ GE243.out)|exact HB.out)⟩⟩
 case rest =>
  clear HC4
  try clear c1
  try clear p2
  try clear c4
  try clear p6
  try clear c8
  try clear c9
  try clear c11
  try clear c11b0
  try clear c11b1
  try clear c16
  try clear c17
  try clear hcz10_0
  try clear hcz10_1
  try clear hcz10_2
  try clear hcz10_3
  try clear hcz10_4
  try clear hcz10_5
  try clear hcz10_6
  try clear hcz18_0
  try clear hcz18_1
  try clear hcz18_2
  try clear hcz18_3
  try clear hcz18_4
  try clear hcz18_5
  try clear hcz18_6
  try clear hfz10_0
  try clear hfz10_1
  try clear hfz10_2
  try clear hfz10_3
  try clear hfz10_4
  try clear hfz10_5
  try clear hfz10_6
  try clear hfz18_0
  try clear hfz18_1
  try clear hfz18_2
  try clear hfz18_3
  try clear hfz18_4
  try clear hfz18_5
  try clear hfz18_6
  obtain ⟨kq,x1001_3,x244002_3,HA,HJ3,BK240,BK243,HI0,HK,HB⟩:=hcut
  cases kq with
  | zero=>exact absurd HA.out (by simp [spec_l91Old.j0])
  | succ kj3 =>
   have H:=HA.out
   clear HA
   simp only [spec_l91Old.j0] at H
   replace H:=Option.bind_eq_some_iff.mp H
   obtain ⟨⟨t248,t249,t252⟩,A190,H⟩:=H
   replace H : ((spec_l91Part.f kj3 s0_0 t252).bind fun bt253=>((spec_l6Rd_pick.f kj3 s0_0 bt253.2.2 40).bind fun bt258=>(if bt258.1=0 then (some (a1, !(t241 == 0),x244002_3,t249,bt253.2.1,t248, !bt253.1,bt258.2)) else (if bt258.1=1 then ((some (([(-1),99999,100000] : List Int) : List Int)).bind fun y260=>((spec_l6Rd_pick.f kj3 s0_0 bt258.2 3).bind fun bt263=>(if 0 ≤ bt263.1 then (if bt263.1 < (y260.length : Int) then (some (rd y260 bt263.1,(t241 == 0),x244002_3,t249,bt253.2.1,t248, !bt253.1,bt263.2)) else (none)) else (none)))) else (some (a1,(t241 == 0),x244002_3,t249,bt253.2.1,t248, !bt253.1,bt258.2))))))=some (r1,r2,r3,r4,r5,r6,r7,r8):=H
   have A19:=Aside0.mk A190
   clear A190
   replace H:=Option.bind_eq_some_iff.mp H
   obtain ⟨⟨t253,t254,t257⟩,A200,H⟩:=H
   replace H : ((spec_l6Rd_pick.f kj3 s0_0 t257 40).bind fun bt258=>(if bt258.1=0 then (some (a1, !(t241 == 0),x244002_3,t249,t254,t248, !t253,bt258.2)) else (if bt258.1=1 then ((some (([(-1),99999,100000] : List Int) : List Int)).bind fun y260=>((spec_l6Rd_pick.f kj3 s0_0 bt258.2 3).bind fun bt263=>(if 0 ≤ bt263.1 then (if bt263.1 < (y260.length : Int) then (some (rd y260 bt263.1,(t241 == 0),x244002_3,t249,t254,t248, !t253,bt263.2)) else (none)) else (none)))) else (some (a1,(t241 == 0),x244002_3,t249,t254,t248, !t253,bt258.2)))))=some (r1,r2,r3,r4,r5,r6,r7,r8):=H
   have A20:=Aside0.mk A200
   clear A200
   replace H:=Option.bind_eq_some_iff.mp H
   obtain ⟨⟨t258,t259⟩,A210,H⟩:=H
   replace H : (if t258=0 then (some (a1, !(t241 == 0),x244002_3,t249,t254,t248, !t253,t259)) else (if t258=1 then ((some (([(-1),99999,100000] : List Int) : List Int)).bind fun y260=>((spec_l6Rd_pick.f kj3 s0_0 t259 3).bind fun bt263=>(if 0 ≤ bt263.1 then (if bt263.1 < (y260.length : Int) then (some (rd y260 bt263.1,(t241 == 0),x244002_3,t249,t254,t248, !t253,bt263.2)) else (none)) else (none)))) else (some (a1,(t241 == 0),x244002_3,t249,t254,t248, !t253,t259))))=some (r1,r2,r3,r4,r5,r6,r7,r8):=H
   have A21:=Aside0.mk A210
   clear A210
   by_cases c22 : t258=0
   ·rw [if_pos c22] at H
    have c22b0 : (t258 == 0)=true:=beq_iff_eq.mpr c22
    have c22b1 : (t258 != 0)=false:=bne_eq_false_iff_eq.mpr c22
    clear c22
    simp only [Option.some.injEq,Prod.mk.injEq] at H
    obtain ⟨rfl,rfl,rfl,rfl,rfl,rfl,rfl,rfl⟩:=H
    go_wp2_with (first|((with_reducible refine gate_callee (f:=73) rfl ?_);refine goesL_ (some 27) rfl rfl Try.func73 (by kernel_rfl) rfl #[.pointer (some ⟨g,0,none⟩)] rfl (by (try simp only [List.map_toArray,List.map_cons,List.map_nil]);first|done|rfl|(simp only [List.length_drop,List.length_take];rfl)) ?_;(with_reducible refine (spec_l91Part.calls kj3 g s0_0 x1001_3 t248 t249 t252 w0 _ ?side1 ?side2 A19.out).mono ?_);(case side1=>repeat (first|(with_reducible first|exact HI0.out|apply IsS87.alloc|apply IsS87.drewN|apply IsS87.drew|apply IsS87.set_1|refine IsS87.far ?_ NB0_240.out _|refine IsS87.far ?_ NB0_243.out _)|exact HI0.out));(case side2=>repeat (first|(with_reducible first|exact HB.out|apply below_alloc|apply pw_below_drewN|apply below_drew1|refine below_set ?_ (IsS87.ge HI0.out)|refine below_set ?_ GE240.out|refine below_set ?_ GE243.out)|exact HB.out));rintro e w23 ⟨v250,rfl,ho0,hi,hb,hk⟩;refine ⟨_,rfl,?_⟩;have n0_:=Aside0.mk (KeepBut.blk hk (g':=gb240) (o:=.cells #[.int .i64 0,.bool false,.int .i64 0,.slice none 0 0,.slice none 0 0,.bool false,.bool false] 26 (0,0)) (by (with_reducible repeat (first|refine blk_drewN ?_ _|refine blk_drew ?_|refine blk_alloc ?_ _));exact BK240.out) NB240_0.out (by simp));have n1_:=Aside0.mk (KeepBut.blk hk (g':=gb243) (o:=.cells #[.int .i64 a1,.bool (t241 == 0),.int .i64 x244002_3,.slice none 0 0,.slice none 0 0,.bool false,.bool false] 26 (0,0)) (by (with_reducible repeat (first|refine blk_drewN ?_ _|refine blk_drew ?_|refine blk_alloc ?_ _));exact BK243.out) NB243_0.out (by simp));have n2_:=Aside0.mk (Kd.R_lower ho0 (keep_size (w:=w) (g:=g) (row:=none) (by repeat (first|(with_reducible first|exact HK.out|apply KeepBut.set_|apply keep_drewN|apply keep_drew|apply keep_alloc|refine keep_far ?_ GW240.out _|refine keep_far ?_ GW243.out _)|exact HK.out))));have n3_:=Aside0.mk (KeepBut.trans (by repeat (first|(with_reducible first|exact HK.out|apply KeepBut.set_|apply keep_drewN|apply keep_drew|apply keep_alloc|refine keep_far ?_ GW240.out _|refine keep_far ?_ GW243.out _)|exact HK.out)) hk (.inl rfl));have n4_:=Aside0.mk (hb);have n5_:=Aside0.mk (hi);clear BK240;clear BK243;clear HK;clear HB;clear HI0;have BK240:=n0_;have BK243:=n1_;have HO251:=n2_;have HK:=n3_;have HB:=n4_;have HI0:=n5_;clear n0_ n1_ n2_ n3_ n4_ n5_;(try clear hb);(try clear hb2);(try clear hk);(try clear hi);(try clear ho0))|((with_reducible refine gate_callee (f:=73) rfl ?_);refine goesL_ (some 32) rfl rfl Try.func73 (by kernel_rfl) rfl #[.pointer (some ⟨g,0,none⟩)] rfl (by (try simp only [List.map_toArray,List.map_cons,List.map_nil]);first|done|rfl|(simp only [List.length_drop,List.length_take];rfl)) ?_;(with_reducible refine (spec_l91Part.calls kj3 g s0_0 t252 t253 t254 t257 w0 _ ?side1 ?side2 A20.out).mono ?_);(case side1=>repeat (first|(with_reducible first|exact HI0.out|apply IsS87.alloc|apply IsS87.drewN|apply IsS87.drew|apply IsS87.set_1|refine IsS87.far ?_ NB0_240.out _|refine IsS87.far ?_ NB0_243.out _)|exact HI0.out));(case side2=>repeat (first|(with_reducible first|exact HB.out|apply below_alloc|apply pw_below_drewN|apply below_drew1|refine below_set ?_ (IsS87.ge HI0.out)|refine below_set ?_ GE240.out|refine below_set ?_ GE243.out)|exact HB.out));rintro e w24 ⟨v255,rfl,ho0,hi,hb,hk⟩;refine ⟨_,rfl,?_⟩;have n0_:=Aside0.mk (KeepBut.blk hk (g':=gb240) (o:=.cells #[.int .i64 0,.bool false,.int .i64 0,.slice none 0 0,.slice none 0 0,.bool false,.bool false] 26 (0,0)) (by (with_reducible repeat (first|refine blk_drewN ?_ _|refine blk_drew ?_|refine blk_alloc ?_ _));exact BK240.out) NB240_0.out (by simp));have n1_:=Aside0.mk (KeepBut.blk hk (g':=gb243) (o:=.cells #[.int .i64 a1,.bool (t241 == 0),.int .i64 x244002_3,.slice none 0 0,.slice none 0 0,.bool false,.bool false] 26 (0,0)) (by (with_reducible repeat (first|refine blk_drewN ?_ _|refine blk_drew ?_|refine blk_alloc ?_ _));exact BK243.out) NB243_0.out (by simp));have n2_:=Aside0.mk (Kd.R_mono (Kd.R_told (Kd.R_oldK (IsS87.apart (show IsS87 w0 _ g s0_0 t252 from by repeat (first|(with_reducible first|exact HI0.out|apply IsS87.alloc|apply IsS87.drewN|apply IsS87.drew|apply IsS87.set_1|refine IsS87.far ?_ NB0_240.out _|refine IsS87.far ?_ NB0_243.out _)|exact HI0.out)) (by (with_reducible repeat (first|apply Kd.R_alloc|apply Kd.R_drewN|apply Kd.R_drew));exact HO251.out) (by decide)) hk) (Kd.R_base ho0)) (fun _ h_=>h_.1));have n3_:=Aside0.mk (Kd.R_lower (Kd.R_new' ho0 (Kd.R_lt (by (with_reducible repeat (first|apply Kd.R_alloc|apply Kd.R_drewN|apply Kd.R_drew));exact HO251.out))) (keep_size (w:=w) (g:=g) (row:=none) (by repeat (first|(with_reducible first|exact HK.out|apply KeepBut.set_|apply keep_drewN|apply keep_drew|apply keep_alloc|refine keep_far ?_ GW240.out _|refine keep_far ?_ GW243.out _)|exact HK.out))));have n4_:=Aside0.mk (KeepBut.trans (by repeat (first|(with_reducible first|exact HK.out|apply KeepBut.set_|apply keep_drewN|apply keep_drew|apply keep_alloc|refine keep_far ?_ GW240.out _|refine keep_far ?_ GW243.out _)|exact HK.out)) hk (.inl rfl));have n5_:=Aside0.mk (hb);have n6_:=Aside0.mk (hi);clear BK240;clear BK243;clear HO251;clear HK;clear HB;clear HI0;have BK240:=n0_;have BK243:=n1_;have HO251:=n2_;have HO256:=n3_;have HK:=n4_;have HB:=n5_;have HI0:=n6_;clear n0_ n1_ n2_ n3_ n4_ n5_ n6_;(try clear hb);(try clear hb2);(try clear hk);(try clear hi);(try clear ho0);have hnb25:=NB243_240.out;have hnc25:=NB240_243.out;have hnb26:=NB243_0.out;have hnc26:=NB0_243.out;have hcz27_0 : w24.cell? ⟨gb243,0,none⟩ = some (.int .i64 a1):=(blk_cell BK243.out 0).trans rfl;have hcz27_1 : w24.cell? ⟨gb243,1,none⟩ = some (.bool (t241 == 0)):=(blk_cell BK243.out 1).trans rfl;have hcz27_2 : w24.cell? ⟨gb243,2,none⟩ = some (.int .i64 x244002_3):=(blk_cell BK243.out 2).trans rfl;have hcz27_3 : w24.cell? ⟨gb243,3,none⟩ = some (.slice none 0 0):=(blk_cell BK243.out 3).trans rfl;have hcz27_4 : w24.cell? ⟨gb243,4,none⟩ = some (.slice none 0 0):=(blk_cell BK243.out 4).trans rfl;have hcz27_5 : w24.cell? ⟨gb243,5,none⟩ = some (.bool false):=(blk_cell BK243.out 5).trans rfl;have hcz27_6 : w24.cell? ⟨gb243,6,none⟩ = some (.bool false):=(blk_cell BK243.out 6).trans rfl;have hfz27_0:=blk_frozen BK243.out 0;have hfz27_1:=blk_frozen BK243.out 1;have hfz27_2:=blk_frozen BK243.out 2;have hfz27_3:=blk_frozen BK243.out 3;have hfz27_4:=blk_frozen BK243.out 4;have hfz27_5:=blk_frozen BK243.out 5;have hfz27_6:=blk_frozen BK243.out 6;obtain ⟨Ao28,co28,eo28⟩:=Kd.R_slice HO251.out;subst eo28;obtain ⟨Ao29,co29,eo29⟩:=Kd.R_slice HO256.out;subst eo29)|((with_reducible refine gate_callee (f:=49) rfl ?_);refine goesL_ (some 45) rfl rfl Try.func49 (by kernel_rfl) rfl #[.pointer (some ⟨g,0,none⟩),.int .i64 40] rfl (by (try simp only [List.map_toArray,List.map_cons,List.map_nil]);first|done|rfl|(simp only [List.length_drop,List.length_take];rfl)) ?_;(with_reducible refine (spec_l6Rd_pick.calls kj3 g s0_0 t257 40 t258 t259 w0 _ ?side1 ?side2 A21.out).mono ?_);(case side1=>repeat (first|(with_reducible first|exact HI0.out|apply IsS87.alloc|apply IsS87.drewN|apply IsS87.drew|apply IsS87.set_1|refine IsS87.far ?_ NB0_240.out _|refine IsS87.far ?_ NB0_243.out _)|exact HI0.out));(case side2=>repeat (first|(with_reducible first|exact HB.out|apply below_alloc|apply pw_below_drewN|apply below_drew1|refine below_set ?_ (IsS87.ge HI0.out)|refine below_set ?_ GE240.out|refine below_set ?_ GE243.out)|exact HB.out));rintro e w30 ⟨rfl,hi,hb,hk⟩;refine ⟨_,rfl,?_⟩;have n0_:=Aside0.mk (KeepBut.blk hk (g':=gb240) (o:=.cells #[.int .i64 0,.bool false,.int .i64 0,.slice none 0 0,.slice none 0 0,.bool false,.bool false] 26 (0,0)) (by (with_reducible repeat (first|refine blk_drewN ?_ _|refine blk_drew ?_|refine blk_alloc ?_ _));refine blk_far ?_ NB240_243.out _;(with_reducible repeat (first|refine blk_drewN ?_ _|refine blk_drew ?_|refine blk_alloc ?_ _));refine blk_far ?_ NB240_243.out _;(with_reducible repeat (first|refine blk_drewN ?_ _|refine blk_drew ?_|refine blk_alloc ?_ _));refine blk_far ?_ NB240_243.out _;(with_reducible repeat (first|refine blk_drewN ?_ _|refine blk_drew ?_|refine blk_alloc ?_ _));refine blk_far ?_ NB240_243.out _;(with_reducible repeat (first|refine blk_drewN ?_ _|refine blk_drew ?_|refine blk_alloc ?_ _));exact BK240.out) NB240_0.out (by simp));have n1_:=Aside0.mk (KeepBut.blk hk (g':=gb243) (o:=.cells #[.int .i64 a1,.bool (t241 == 0),.int .i64 x244002_3,.slice Ao28 t249.length co28,.slice Ao29 t254.length co29,.bool t248,.bool (!t253)] 26 (0,0)) (by (with_reducible repeat (first|refine blk_drewN ?_ _|refine blk_drew ?_|refine blk_alloc ?_ _));refine blk_put (cs:=#[.int .i64 a1,.bool (t241 == 0),.int .i64 x244002_3,.slice Ao28 t249.length co28,.slice none 0 0,.bool t248,.bool (!t253)]) ?_ 4 _ rfl;(with_reducible repeat (first|refine blk_drewN ?_ _|refine blk_drew ?_|refine blk_alloc ?_ _));refine blk_put (cs:=#[.int .i64 a1,.bool (t241 == 0),.int .i64 x244002_3,.slice Ao28 t249.length co28,.slice none 0 0,.bool t248,.bool false]) ?_ 6 _ rfl;(with_reducible repeat (first|refine blk_drewN ?_ _|refine blk_drew ?_|refine blk_alloc ?_ _));refine blk_put (cs:=#[.int .i64 a1,.bool (t241 == 0),.int .i64 x244002_3,.slice none 0 0,.slice none 0 0,.bool t248,.bool false]) ?_ 3 _ rfl;(with_reducible repeat (first|refine blk_drewN ?_ _|refine blk_drew ?_|refine blk_alloc ?_ _));refine blk_put (cs:=#[.int .i64 a1,.bool (t241 == 0),.int .i64 x244002_3,.slice none 0 0,.slice none 0 0,.bool false,.bool false]) ?_ 5 _ rfl;(with_reducible repeat (first|refine blk_drewN ?_ _|refine blk_drew ?_|refine blk_alloc ?_ _));exact BK243.out) NB243_0.out (by simp));have n2_:=Aside0.mk (Kd.R_mono (Kd.R_keep (IsS87.apart (show IsS87 w0 _ g s0_0 t257 from by repeat (first|(with_reducible first|exact HI0.out|apply IsS87.alloc|apply IsS87.drewN|apply IsS87.drew|apply IsS87.set_1|refine IsS87.far ?_ NB0_240.out _|refine IsS87.far ?_ NB0_243.out _)|exact HI0.out)) (by (with_reducible repeat (first|apply Kd.R_alloc|apply Kd.R_drewN|apply Kd.R_drew));exact (Kd.R_mono (Kd.R_far (p:=⟨gb243,4,none⟩) (Kd.R_far (p:=⟨gb243,6,none⟩) (Kd.R_far (p:=⟨gb243,3,none⟩) (Kd.R_far (p:=⟨gb243,5,none⟩) (Kd.R_types HO251.out BK243.out (by decide)) (fun _ hk=>hk.2) (.bool t248)) (fun _ hk=>hk.2) (.slice Ao28 t249.length co28)) (fun _ hk=>hk.2) (.bool (!t253))) (fun _ hk=>hk.2) (.slice Ao29 t254.length co29)) (fun _ h_=>h_.1))) (by decide)) hk (fun _ h=>h.2)) (fun _ h=>h.1));have n3_:=Aside0.mk (Kd.R_mono (Kd.R_keep (IsS87.apart (show IsS87 w0 _ g s0_0 t257 from by repeat (first|(with_reducible first|exact HI0.out|apply IsS87.alloc|apply IsS87.drewN|apply IsS87.drew|apply IsS87.set_1|refine IsS87.far ?_ NB0_240.out _|refine IsS87.far ?_ NB0_243.out _)|exact HI0.out)) (by (with_reducible repeat (first|apply Kd.R_alloc|apply Kd.R_drewN|apply Kd.R_drew));exact (Kd.R_mono (Kd.R_far (p:=⟨gb243,4,none⟩) (Kd.R_far (p:=⟨gb243,6,none⟩) (Kd.R_far (p:=⟨gb243,3,none⟩) (Kd.R_far (p:=⟨gb243,5,none⟩) (Kd.R_types HO256.out BK243.out (by decide)) (fun _ hk=>hk.2) (.bool t248)) (fun _ hk=>hk.2) (.slice Ao28 t249.length co28)) (fun _ hk=>hk.2) (.bool (!t253))) (fun _ hk=>hk.2) (.slice Ao29 t254.length co29)) (fun _ h_=>h_.1))) (by decide)) hk (fun _ h=>h.2)) (fun _ h=>h.1));have n4_:=Aside0.mk (KeepBut.trans (by repeat (first|(with_reducible first|exact HK.out|apply KeepBut.set_|apply keep_drewN|apply keep_drew|apply keep_alloc|refine keep_far ?_ GW240.out _|refine keep_far ?_ GW243.out _)|exact HK.out)) hk (.inl rfl));have n5_:=Aside0.mk (hb);have n6_:=Aside0.mk (hi);clear BK240;clear BK243;clear HO251;clear HO256;clear HK;clear HB;clear HI0;have BK240:=n0_;have BK243:=n1_;have HO251:=n2_;have HO256:=n3_;have HK:=n4_;have HB:=n5_;have HI0:=n6_;clear n0_ n1_ n2_ n3_ n4_ n5_ n6_;(try clear hb);(try clear hb2);(try clear hk);(try clear hi);have hcz31_0 : w30.cell? ⟨gb243,0,none⟩ = some (.int .i64 a1):=(blk_cell BK243.out 0).trans rfl;have hcz31_1 : w30.cell? ⟨gb243,1,none⟩ = some (.bool (t241 == 0)):=(blk_cell BK243.out 1).trans rfl;have hcz31_2 : w30.cell? ⟨gb243,2,none⟩ = some (.int .i64 x244002_3):=(blk_cell BK243.out 2).trans rfl;have hcz31_3 : w30.cell? ⟨gb243,3,none⟩ = some (.slice Ao28 t249.length co28):=(blk_cell BK243.out 3).trans rfl;have hcz31_4 : w30.cell? ⟨gb243,4,none⟩ = some (.slice Ao29 t254.length co29):=(blk_cell BK243.out 4).trans rfl;have hcz31_5 : w30.cell? ⟨gb243,5,none⟩ = some (.bool t248):=(blk_cell BK243.out 5).trans rfl;have hcz31_6 : w30.cell? ⟨gb243,6,none⟩ = some (.bool (!t253)):=(blk_cell BK243.out 6).trans rfl;have hfz31_0:=blk_frozen BK243.out 0;have hfz31_1:=blk_frozen BK243.out 1;have hfz31_2:=blk_frozen BK243.out 2;have hfz31_3:=blk_frozen BK243.out 3;have hfz31_4:=blk_frozen BK243.out 4;have hfz31_5:=blk_frozen BK243.out 5;have hfz31_6:=blk_frozen BK243.out 6;have hnb32:=NB240_0.out;have hnc32:=NB0_240.out;have hcz33_0 : w30.cell? ⟨gb240,0,none⟩ = some (.int .i64 0):=(blk_cell BK240.out 0).trans rfl;have hcz33_1 : w30.cell? ⟨gb240,1,none⟩ = some (.bool false):=(blk_cell BK240.out 1).trans rfl;have hcz33_2 : w30.cell? ⟨gb240,2,none⟩ = some (.int .i64 0):=(blk_cell BK240.out 2).trans rfl;have hcz33_3 : w30.cell? ⟨gb240,3,none⟩ = some (.slice none 0 0):=(blk_cell BK240.out 3).trans rfl;have hcz33_4 : w30.cell? ⟨gb240,4,none⟩ = some (.slice none 0 0):=(blk_cell BK240.out 4).trans rfl;have hcz33_5 : w30.cell? ⟨gb240,5,none⟩ = some (.bool false):=(blk_cell BK240.out 5).trans rfl;have hcz33_6 : w30.cell? ⟨gb240,6,none⟩ = some (.bool false):=(blk_cell BK240.out 6).trans rfl;have hfz33_0:=blk_frozen BK240.out 0;have hfz33_1:=blk_frozen BK240.out 1;have hfz33_2:=blk_frozen BK240.out 2;have hfz33_3:=blk_frozen BK240.out 3;have hfz33_4:=blk_frozen BK240.out 4;have hfz33_5:=blk_frozen BK240.out 5;have hfz33_6:=blk_frozen BK240.out 6))
    refine bodyPost_ret (results_cell_row rfl _ _ gb240 26 #[.int .i64 a1,.bool (!(t241 == 0)),.int .i64 x244002_3,.slice Ao28 t249.length co28,.slice Ao29 t254.length co29,.bool t248,.bool (!t253)] (0,0) _ rfl (by (with_reducible repeat (first|refine blk_drewN ?_ _|refine blk_drew ?_|refine blk_alloc ?_ _));refine blk_put (cs:=#[.int .i64 a1,.bool (!(t241 == 0)),.int .i64 x244002_3,.slice Ao28 t249.length co28,.slice Ao29 t254.length co29,.bool t248,.bool false]) ?_ 6 _ rfl;(with_reducible repeat (first|refine blk_drewN ?_ _|refine blk_drew ?_|refine blk_alloc ?_ _));refine blk_put (cs:=#[.int .i64 a1,.bool (!(t241 == 0)),.int .i64 x244002_3,.slice Ao28 t249.length co28,.slice Ao29 t254.length co29,.bool false,.bool false]) ?_ 5 _ rfl;(with_reducible repeat (first|refine blk_drewN ?_ _|refine blk_drew ?_|refine blk_alloc ?_ _));refine blk_put (cs:=#[.int .i64 a1,.bool (!(t241 == 0)),.int .i64 x244002_3,.slice Ao28 t249.length co28,.slice none 0 0,.bool false,.bool false]) ?_ 4 _ rfl;(with_reducible repeat (first|refine blk_drewN ?_ _|refine blk_drew ?_|refine blk_alloc ?_ _));refine blk_put (cs:=#[.int .i64 a1,.bool (!(t241 == 0)),.int .i64 x244002_3,.slice none 0 0,.slice none 0 0,.bool false,.bool false]) ?_ 3 _ rfl;(with_reducible repeat (first|refine blk_drewN ?_ _|refine blk_drew ?_|refine blk_alloc ?_ _));refine blk_put (cs:=#[.int .i64 a1,.bool (!(t241 == 0)),.int .i64 0,.slice none 0 0,.slice none 0 0,.bool false,.bool false]) ?_ 2 _ rfl;(with_reducible repeat (first|refine blk_drewN ?_ _|refine blk_drew ?_|refine blk_alloc ?_ _));refine blk_put (cs:=#[.int .i64 a1,.bool false,.int .i64 0,.slice none 0 0,.slice none 0 0,.bool false,.bool false]) ?_ 1 _ rfl;(with_reducible repeat (first|refine blk_drewN ?_ _|refine blk_drew ?_|refine blk_alloc ?_ _));refine blk_put (cs:=#[.int .i64 0,.bool false,.int .i64 0,.slice none 0 0,.slice none 0 0,.bool false,.bool false]) ?_ 0 _ rfl;(with_reducible repeat (first|refine blk_drewN ?_ _|refine blk_drew ?_|refine blk_alloc ?_ _));refine blk_far ?_ NB240_243.out _;(with_reducible repeat (first|refine blk_drewN ?_ _|refine blk_drew ?_|refine blk_alloc ?_ _));exact BK240.out) Try.underlying26 rfl (by kernel_rfl)) rfl ?_
    exact ⟨_,_,by first|rfl|(simp [errW_none,errW_some] <;> rfl)|(simp [*,errW_none,errW_some] <;> rfl),by (with_reducible repeat (first|apply Kd.R_alloc|apply Kd.R_drewN|apply Kd.R_drew));exact Kd.R_mono (Kd.R_far (p:=⟨gb240,6,none⟩) (Kd.R_far (p:=⟨gb240,5,none⟩) (Kd.R_far (p:=⟨gb240,4,none⟩) (Kd.R_far (p:=⟨gb240,3,none⟩) (Kd.R_far (p:=⟨gb240,2,none⟩) (Kd.R_far (p:=⟨gb240,1,none⟩) (Kd.R_far (p:=⟨gb240,0,none⟩) (Kd.R_far (p:=⟨gb243,1,none⟩) (Kd.R_types (Kd.R_types HO251.out BK243.out (by decide)) BK240.out (by decide)) (fun _ hk=>hk.1.2) (.bool (!(t241 == 0)))) (fun _ hk=>hk.2) (.int .i64 a1)) (fun _ hk=>hk.2) (.bool (!(t241 == 0)))) (fun _ hk=>hk.2) (.int .i64 x244002_3)) (fun _ hk=>hk.2) (.slice Ao28 t249.length co28)) (fun _ hk=>hk.2) (.slice Ao29 t254.length co29)) (fun _ hk=>hk.2) (.bool t248)) (fun _ hk=>hk.2) (.bool (!t253))) (fun _ hk=>hk.1.1.2),by (with_reducible repeat (first|apply Kd.R_alloc|apply Kd.R_drewN|apply Kd.R_drew));exact Kd.R_mono (Kd.R_far (p:=⟨gb240,6,none⟩) (Kd.R_far (p:=⟨gb240,5,none⟩) (Kd.R_far (p:=⟨gb240,4,none⟩) (Kd.R_far (p:=⟨gb240,3,none⟩) (Kd.R_far (p:=⟨gb240,2,none⟩) (Kd.R_far (p:=⟨gb240,1,none⟩) (Kd.R_far (p:=⟨gb240,0,none⟩) (Kd.R_far (p:=⟨gb243,1,none⟩) (Kd.R_types (Kd.R_types HO256.out BK243.out (by decide)) BK240.out (by decide)) (fun _ hk=>hk.1.2) (.bool (!(t241 == 0)))) (fun _ hk=>hk.2) (.int .i64 a1)) (fun _ hk=>hk.2) (.bool (!(t241 == 0)))) (fun _ hk=>hk.2) (.int .i64 x244002_3)) (fun _ hk=>hk.2) (.slice Ao28 t249.length co28)) (fun _ hk=>hk.2) (.slice Ao29 t254.length co29)) (fun _ hk=>hk.2) (.bool t248)) (fun _ hk=>hk.2) (.bool (!t253))) (fun _ hk=>hk.1.1.2),by repeat (first|(with_reducible first|exact HI0.out|apply IsS87.alloc|apply IsS87.drewN|apply IsS87.drew|apply IsS87.set_1|refine IsS87.far ?_ NB0_240.out _|refine IsS87.far ?_ NB0_243.out _)|exact HI0.out),by repeat (first|(with_reducible first|exact HB.out|apply below_alloc|apply pw_below_drewN|apply below_drew1|refine below_set ?_ (IsS87.ge HI0.out)|refine below_set ?_ GE240.out|refine below_set ?_ GE243.out)|exact HB.out),by repeat (first|(with_reducible first|exact HK.out|apply KeepBut.set_|apply keep_drewN|apply keep_drew|apply keep_alloc|refine keep_far ?_ GW240.out _|refine keep_far ?_ GW243.out _)|exact HK.out)⟩
   ·rw [if_neg c22] at H
    have c22b0 : (t258 == 0)=false:=beq_eq_false_iff_ne.mpr c22
    have c22b1 : (t258 != 0)=true:=bne_iff_ne.mpr c22
    by_cases c34 : t258=1
    ·rw [if_pos c34] at H
     have c34b0 : (t258 == 1)=true:=beq_iff_eq.mpr c34
     have c34b1 : (t258 != 1)=false:=bne_eq_false_iff_eq.mpr c34
     clear c34
     obtain ⟨y260,hy260⟩ : ∃ y_ : List Int,y_=(([(-1),99999,100000] : List Int)):=⟨_,rfl⟩
     replace H : ((spec_l6Rd_pick.f kj3 s0_0 t259 3).bind fun bt263=>(if 0 ≤ bt263.1 then (if bt263.1 < (y260.length : Int) then (some (rd y260 bt263.1,(t241 == 0),x244002_3,t249,t254,t248, !t253,bt263.2)) else (none)) else (none)))=some (r1,r2,r3,r4,r5,r6,r7,r8):=by first|(rw [hy260];with_reducible exact H)|(have H2_:=(Option.bind_some _ _).symm.trans H;rw [hy260];with_reducible exact H2_)|(have H2_:=(Option.bind_some _ _).symm.trans H;with_reducible exact H2_)|with_reducible exact H|(rw [hy260];exact H)|exact H
     have Ny260:=Aside0.mk hy260
     clear hy260
     replace H:=Option.bind_eq_some_iff.mp H
     obtain ⟨⟨t263,t264⟩,A350,H⟩:=H
     replace H : (if 0 ≤ t263 then (if t263 < (y260.length : Int) then (some (rd y260 t263,(t241 == 0),x244002_3,t249,t254,t248, !t253,t264)) else (none)) else (none))=some (r1,r2,r3,r4,r5,r6,r7,r8):=H
     have A35:=Aside0.mk A350
     clear A350
     by_cases c36 : 0 ≤ t263
     ·rw [if_pos c36] at H
      have c36b0 : decide (0 ≤ t263)=true:=decide_eq_true c36
      clear c36
      by_cases c37 : t263 < (y260.length : Int)
      ·rw [if_pos c37] at H
       have c37b0 : decide (t263 < (y260.length : Int))=true:=decide_eq_true c37
       clear c37
       simp only [Option.some.injEq,Prod.mk.injEq] at H
       obtain ⟨rfl,rfl,rfl,rfl,rfl,rfl,rfl,rfl⟩:=H
       go_wp2_with (first|((with_reducible refine gate_callee (f:=73) rfl ?_);refine goesL_ (some 27) rfl rfl Try.func73 (by kernel_rfl) rfl #[.pointer (some ⟨g,0,none⟩)] rfl (by (try simp only [List.map_toArray,List.map_cons,List.map_nil]);first|done|rfl|(simp only [List.length_drop,List.length_take];rfl)) ?_;(with_reducible refine (spec_l91Part.calls kj3 g s0_0 x1001_3 t248 t249 t252 w0 _ ?side1 ?side2 A19.out).mono ?_);(case side1=>repeat (first|(with_reducible first|exact HI0.out|apply IsS87.alloc|apply IsS87.drewN|apply IsS87.drew|apply IsS87.set_1|refine IsS87.far ?_ NB0_240.out _|refine IsS87.far ?_ NB0_243.out _)|exact HI0.out));(case side2=>repeat (first|(with_reducible first|exact HB.out|apply below_alloc|apply pw_below_drewN|apply below_drew1|refine below_set ?_ (IsS87.ge HI0.out)|refine below_set ?_ GE240.out|refine below_set ?_ GE243.out)|exact HB.out));rintro e w38 ⟨v250,rfl,ho0,hi,hb,hk⟩;refine ⟨_,rfl,?_⟩;have n0_:=Aside0.mk (KeepBut.blk hk (g':=gb240) (o:=.cells #[.int .i64 0,.bool false,.int .i64 0,.slice none 0 0,.slice none 0 0,.bool false,.bool false] 26 (0,0)) (by (with_reducible repeat (first|refine blk_drewN ?_ _|refine blk_drew ?_|refine blk_alloc ?_ _));exact BK240.out) NB240_0.out (by simp));have n1_:=Aside0.mk (KeepBut.blk hk (g':=gb243) (o:=.cells #[.int .i64 a1,.bool (t241 == 0),.int .i64 x244002_3,.slice none 0 0,.slice none 0 0,.bool false,.bool false] 26 (0,0)) (by (with_reducible repeat (first|refine blk_drewN ?_ _|refine blk_drew ?_|refine blk_alloc ?_ _));exact BK243.out) NB243_0.out (by simp));have n2_:=Aside0.mk (Kd.R_lower ho0 (keep_size (w:=w) (g:=g) (row:=none) (by repeat (first|(with_reducible first|exact HK.out|apply KeepBut.set_|apply keep_drewN|apply keep_drew|apply keep_alloc|refine keep_far ?_ GW240.out _|refine keep_far ?_ GW243.out _)|exact HK.out))));have n3_:=Aside0.mk (KeepBut.trans (by repeat (first|(with_reducible first|exact HK.out|apply KeepBut.set_|apply keep_drewN|apply keep_drew|apply keep_alloc|refine keep_far ?_ GW240.out _|refine keep_far ?_ GW243.out _)|exact HK.out)) hk (.inl rfl));have n4_:=Aside0.mk (hb);have n5_:=Aside0.mk (hi);clear BK240;clear BK243;clear HK;clear HB;clear HI0;have BK240:=n0_;have BK243:=n1_;have HO251:=n2_;have HK:=n3_;have HB:=n4_;have HI0:=n5_;clear n0_ n1_ n2_ n3_ n4_ n5_;(try clear hb);(try clear hb2);(try clear hk);(try clear hi);(try clear ho0))|((with_reducible refine gate_callee (f:=73) rfl ?_);refine goesL_ (some 32) rfl rfl Try.func73 (by kernel_rfl) rfl #[.pointer (some ⟨g,0,none⟩)] rfl (by (try simp only [List.map_toArray,List.map_cons,List.map_nil]);first|done|rfl|(simp only [List.length_drop,List.length_take];rfl)) ?_;(with_reducible refine (spec_l91Part.calls kj3 g s0_0 t252 t253 t254 t257 w0 _ ?side1 ?side2 A20.out).mono ?_);(case side1=>repeat (first|(with_reducible first|exact HI0.out|apply IsS87.alloc|apply IsS87.drewN|apply IsS87.drew|apply IsS87.set_1|refine IsS87.far ?_ NB0_240.out _|refine IsS87.far ?_ NB0_243.out _)|exact HI0.out));(case side2=>repeat (first|(with_reducible first|exact HB.out|apply below_alloc|apply pw_below_drewN|apply below_drew1|refine below_set ?_ (IsS87.ge HI0.out)|refine below_set ?_ GE240.out|refine below_set ?_ GE243.out)|exact HB.out));rintro e w39 ⟨v255,rfl,ho0,hi,hb,hk⟩;refine ⟨_,rfl,?_⟩;have n0_:=Aside0.mk (KeepBut.blk hk (g':=gb240) (o:=.cells #[.int .i64 0,.bool false,.int .i64 0,.slice none 0 0,.slice none 0 0,.bool false,.bool false] 26 (0,0)) (by (with_reducible repeat (first|refine blk_drewN ?_ _|refine blk_drew ?_|refine blk_alloc ?_ _));exact BK240.out) NB240_0.out (by simp));have n1_:=Aside0.mk (KeepBut.blk hk (g':=gb243) (o:=.cells #[.int .i64 a1,.bool (t241 == 0),.int .i64 x244002_3,.slice none 0 0,.slice none 0 0,.bool false,.bool false] 26 (0,0)) (by (with_reducible repeat (first|refine blk_drewN ?_ _|refine blk_drew ?_|refine blk_alloc ?_ _));exact BK243.out) NB243_0.out (by simp));have n2_:=Aside0.mk (Kd.R_mono (Kd.R_told (Kd.R_oldK (IsS87.apart (show IsS87 w0 _ g s0_0 t252 from by repeat (first|(with_reducible first|exact HI0.out|apply IsS87.alloc|apply IsS87.drewN|apply IsS87.drew|apply IsS87.set_1|refine IsS87.far ?_ NB0_240.out _|refine IsS87.far ?_ NB0_243.out _)|exact HI0.out)) (by (with_reducible repeat (first|apply Kd.R_alloc|apply Kd.R_drewN|apply Kd.R_drew));exact HO251.out) (by decide)) hk) (Kd.R_base ho0)) (fun _ h_=>h_.1));have n3_:=Aside0.mk (Kd.R_lower (Kd.R_new' ho0 (Kd.R_lt (by (with_reducible repeat (first|apply Kd.R_alloc|apply Kd.R_drewN|apply Kd.R_drew));exact HO251.out))) (keep_size (w:=w) (g:=g) (row:=none) (by repeat (first|(with_reducible first|exact HK.out|apply KeepBut.set_|apply keep_drewN|apply keep_drew|apply keep_alloc|refine keep_far ?_ GW240.out _|refine keep_far ?_ GW243.out _)|exact HK.out))));have n4_:=Aside0.mk (KeepBut.trans (by repeat (first|(with_reducible first|exact HK.out|apply KeepBut.set_|apply keep_drewN|apply keep_drew|apply keep_alloc|refine keep_far ?_ GW240.out _|refine keep_far ?_ GW243.out _)|exact HK.out)) hk (.inl rfl));have n5_:=Aside0.mk (hb);have n6_:=Aside0.mk (hi);clear BK240;clear BK243;clear HO251;clear HK;clear HB;clear HI0;have BK240:=n0_;have BK243:=n1_;have HO251:=n2_;have HO256:=n3_;have HK:=n4_;have HB:=n5_;have HI0:=n6_;clear n0_ n1_ n2_ n3_ n4_ n5_ n6_;(try clear hb);(try clear hb2);(try clear hk);(try clear hi);(try clear ho0);have hnb40:=NB243_240.out;have hnc40:=NB240_243.out;have hnb41:=NB243_0.out;have hnc41:=NB0_243.out;have hcz42_0 : w39.cell? ⟨gb243,0,none⟩ = some (.int .i64 a1):=(blk_cell BK243.out 0).trans rfl;have hcz42_1 : w39.cell? ⟨gb243,1,none⟩ = some (.bool (t241 == 0)):=(blk_cell BK243.out 1).trans rfl;have hcz42_2 : w39.cell? ⟨gb243,2,none⟩ = some (.int .i64 x244002_3):=(blk_cell BK243.out 2).trans rfl;have hcz42_3 : w39.cell? ⟨gb243,3,none⟩ = some (.slice none 0 0):=(blk_cell BK243.out 3).trans rfl;have hcz42_4 : w39.cell? ⟨gb243,4,none⟩ = some (.slice none 0 0):=(blk_cell BK243.out 4).trans rfl;have hcz42_5 : w39.cell? ⟨gb243,5,none⟩ = some (.bool false):=(blk_cell BK243.out 5).trans rfl;have hcz42_6 : w39.cell? ⟨gb243,6,none⟩ = some (.bool false):=(blk_cell BK243.out 6).trans rfl;have hfz42_0:=blk_frozen BK243.out 0;have hfz42_1:=blk_frozen BK243.out 1;have hfz42_2:=blk_frozen BK243.out 2;have hfz42_3:=blk_frozen BK243.out 3;have hfz42_4:=blk_frozen BK243.out 4;have hfz42_5:=blk_frozen BK243.out 5;have hfz42_6:=blk_frozen BK243.out 6;obtain ⟨Ao43,co43,eo43⟩:=Kd.R_slice HO251.out;subst eo43;obtain ⟨Ao44,co44,eo44⟩:=Kd.R_slice HO256.out;subst eo44)|((with_reducible refine gate_callee (f:=49) rfl ?_);refine goesL_ (some 45) rfl rfl Try.func49 (by kernel_rfl) rfl #[.pointer (some ⟨g,0,none⟩),.int .i64 40] rfl (by (try simp only [List.map_toArray,List.map_cons,List.map_nil]);first|done|rfl|(simp only [List.length_drop,List.length_take];rfl)) ?_;(with_reducible refine (spec_l6Rd_pick.calls kj3 g s0_0 t257 40 t258 t259 w0 _ ?side1 ?side2 A21.out).mono ?_);(case side1=>repeat (first|(with_reducible first|exact HI0.out|apply IsS87.alloc|apply IsS87.drewN|apply IsS87.drew|apply IsS87.set_1|refine IsS87.far ?_ NB0_240.out _|refine IsS87.far ?_ NB0_243.out _)|exact HI0.out));(case side2=>repeat (first|(with_reducible first|exact HB.out|apply below_alloc|apply pw_below_drewN|apply below_drew1|refine below_set ?_ (IsS87.ge HI0.out)|refine below_set ?_ GE240.out|refine below_set ?_ GE243.out)|exact HB.out));rintro e w45 ⟨rfl,hi,hb,hk⟩;refine ⟨_,rfl,?_⟩;have n0_:=Aside0.mk (KeepBut.blk hk (g':=gb240) (o:=.cells #[.int .i64 0,.bool false,.int .i64 0,.slice none 0 0,.slice none 0 0,.bool false,.bool false] 26 (0,0)) (by (with_reducible repeat (first|refine blk_drewN ?_ _|refine blk_drew ?_|refine blk_alloc ?_ _));refine blk_far ?_ NB240_243.out _;(with_reducible repeat (first|refine blk_drewN ?_ _|refine blk_drew ?_|refine blk_alloc ?_ _));refine blk_far ?_ NB240_243.out _;(with_reducible repeat (first|refine blk_drewN ?_ _|refine blk_drew ?_|refine blk_alloc ?_ _));refine blk_far ?_ NB240_243.out _;(with_reducible repeat (first|refine blk_drewN ?_ _|refine blk_drew ?_|refine blk_alloc ?_ _));refine blk_far ?_ NB240_243.out _;(with_reducible repeat (first|refine blk_drewN ?_ _|refine blk_drew ?_|refine blk_alloc ?_ _));exact BK240.out) NB240_0.out (by simp));have n1_:=Aside0.mk (KeepBut.blk hk (g':=gb243) (o:=.cells #[.int .i64 a1,.bool (t241 == 0),.int .i64 x244002_3,.slice Ao43 t249.length co43,.slice Ao44 t254.length co44,.bool t248,.bool (!t253)] 26 (0,0)) (by (with_reducible repeat (first|refine blk_drewN ?_ _|refine blk_drew ?_|refine blk_alloc ?_ _));refine blk_put (cs:=#[.int .i64 a1,.bool (t241 == 0),.int .i64 x244002_3,.slice Ao43 t249.length co43,.slice none 0 0,.bool t248,.bool (!t253)]) ?_ 4 _ rfl;(with_reducible repeat (first|refine blk_drewN ?_ _|refine blk_drew ?_|refine blk_alloc ?_ _));refine blk_put (cs:=#[.int .i64 a1,.bool (t241 == 0),.int .i64 x244002_3,.slice Ao43 t249.length co43,.slice none 0 0,.bool t248,.bool false]) ?_ 6 _ rfl;(with_reducible repeat (first|refine blk_drewN ?_ _|refine blk_drew ?_|refine blk_alloc ?_ _));refine blk_put (cs:=#[.int .i64 a1,.bool (t241 == 0),.int .i64 x244002_3,.slice none 0 0,.slice none 0 0,.bool t248,.bool false]) ?_ 3 _ rfl;(with_reducible repeat (first|refine blk_drewN ?_ _|refine blk_drew ?_|refine blk_alloc ?_ _));refine blk_put (cs:=#[.int .i64 a1,.bool (t241 == 0),.int .i64 x244002_3,.slice none 0 0,.slice none 0 0,.bool false,.bool false]) ?_ 5 _ rfl;(with_reducible repeat (first|refine blk_drewN ?_ _|refine blk_drew ?_|refine blk_alloc ?_ _));exact BK243.out) NB243_0.out (by simp));have n2_:=Aside0.mk (Kd.R_mono (Kd.R_keep (IsS87.apart (show IsS87 w0 _ g s0_0 t257 from by repeat (first|(with_reducible first|exact HI0.out|apply IsS87.alloc|apply IsS87.drewN|apply IsS87.drew|apply IsS87.set_1|refine IsS87.far ?_ NB0_240.out _|refine IsS87.far ?_ NB0_243.out _)|exact HI0.out)) (by (with_reducible repeat (first|apply Kd.R_alloc|apply Kd.R_drewN|apply Kd.R_drew));exact (Kd.R_mono (Kd.R_far (p:=⟨gb243,4,none⟩) (Kd.R_far (p:=⟨gb243,6,none⟩) (Kd.R_far (p:=⟨gb243,3,none⟩) (Kd.R_far (p:=⟨gb243,5,none⟩) (Kd.R_types HO251.out BK243.out (by decide)) (fun _ hk=>hk.2) (.bool t248)) (fun _ hk=>hk.2) (.slice Ao43 t249.length co43)) (fun _ hk=>hk.2) (.bool (!t253))) (fun _ hk=>hk.2) (.slice Ao44 t254.length co44)) (fun _ h_=>h_.1))) (by decide)) hk (fun _ h=>h.2)) (fun _ h=>h.1));have n3_:=Aside0.mk (Kd.R_mono (Kd.R_keep (IsS87.apart (show IsS87 w0 _ g s0_0 t257 from by repeat (first|(with_reducible first|exact HI0.out|apply IsS87.alloc|apply IsS87.drewN|apply IsS87.drew|apply IsS87.set_1|refine IsS87.far ?_ NB0_240.out _|refine IsS87.far ?_ NB0_243.out _)|exact HI0.out)) (by (with_reducible repeat (first|apply Kd.R_alloc|apply Kd.R_drewN|apply Kd.R_drew));exact (Kd.R_mono (Kd.R_far (p:=⟨gb243,4,none⟩) (Kd.R_far (p:=⟨gb243,6,none⟩) (Kd.R_far (p:=⟨gb243,3,none⟩) (Kd.R_far (p:=⟨gb243,5,none⟩) (Kd.R_types HO256.out BK243.out (by decide)) (fun _ hk=>hk.2) (.bool t248)) (fun _ hk=>hk.2) (.slice Ao43 t249.length co43)) (fun _ hk=>hk.2) (.bool (!t253))) (fun _ hk=>hk.2) (.slice Ao44 t254.length co44)) (fun _ h_=>h_.1))) (by decide)) hk (fun _ h=>h.2)) (fun _ h=>h.1));have n4_:=Aside0.mk (KeepBut.trans (by repeat (first|(with_reducible first|exact HK.out|apply KeepBut.set_|apply keep_drewN|apply keep_drew|apply keep_alloc|refine keep_far ?_ GW240.out _|refine keep_far ?_ GW243.out _)|exact HK.out)) hk (.inl rfl));have n5_:=Aside0.mk (hb);have n6_:=Aside0.mk (hi);clear BK240;clear BK243;clear HO251;clear HO256;clear HK;clear HB;clear HI0;have BK240:=n0_;have BK243:=n1_;have HO251:=n2_;have HO256:=n3_;have HK:=n4_;have HB:=n5_;have HI0:=n6_;clear n0_ n1_ n2_ n3_ n4_ n5_ n6_;(try clear hb);(try clear hb2);(try clear hk);(try clear hi))|((with_reducible refine gate_dst (N:=54) rfl ?_);refine Kd.R_lit (Kd.int .i64) _ 3 ?hg (N:=54) ?hd (xs:=([(-1),99999,100000] : List Int)) (inner:=[.int .i64 (-1),.int .i64 99999,.int .i64 100000]) (ok:=fun _=>True) (okp:=fun _=>True) ?hr ?hp (fun _ hk=>hk) trivial (Below.refl _ _) (Nat.le_refl _) (by simp) ?_;(case hd=>rfl);(case hg=>rfl);(case hr=>first|(go_simp;done)|(go_simp;rfl));(case hp=>exact (Reps.one (show Kd.M (Kd.int .i64) _ _ _ (-1) [.int .i64 (-1)] from rfl) (Reps.one (show Kd.M (Kd.int .i64) _ _ _ 99999 [.int .i64 99999] from rfl) (Reps.one (show Kd.M (Kd.int .i64) _ _ _ 100000 [.int .i64 100000] from rfl) (Reps.none _ _)))));intro v261 w46 ho47 hb hg_ hnew_;clear hg_ hnew_;(first|rw [← Ny260.out] at ho47|(simp only [Int.reduceToNat] at ho47;rw [← Ny260.out] at ho47));have n0_:=Aside0.mk (Kd.R_elder' (by (with_reducible repeat (first|apply Kd.R_alloc|apply Kd.R_drewN|apply Kd.R_drew));exact HO251.out) (Kd.R_base ho47) hb);have n1_:=Aside0.mk (Kd.R_elder' (by (with_reducible repeat (first|apply Kd.R_alloc|apply Kd.R_drewN|apply Kd.R_drew));exact HO256.out) (Kd.R_base ho47) hb);have n2_:=Aside0.mk (Kd.R_lower (Kd.R_new' (Kd.R_new' ho47 (Kd.R_lt (by (with_reducible repeat (first|apply Kd.R_alloc|apply Kd.R_drewN|apply Kd.R_drew));exact HO251.out))) (Kd.R_lt (by (with_reducible repeat (first|apply Kd.R_alloc|apply Kd.R_drewN|apply Kd.R_drew));exact HO256.out))) (keep_size (w:=w) (g:=g) (row:=none) (by repeat (first|(with_reducible first|exact HK.out|apply KeepBut.set_|apply keep_drewN|apply keep_drew|apply keep_alloc|refine keep_far ?_ GW240.out _|refine keep_far ?_ GW243.out _)|exact HK.out))));have n3_:=Aside0.mk (blk_below (g:=gb240) (o:=.cells #[.int .i64 0,.bool false,.int .i64 0,.slice none 0 0,.slice none 0 0,.bool false,.bool false] 26 (0,0)) (by (with_reducible repeat (first|refine blk_drewN ?_ _|refine blk_drew ?_|refine blk_alloc ?_ _));exact BK240.out) hb);have n4_:=Aside0.mk (blk_below (g:=gb243) (o:=.cells #[.int .i64 a1,.bool (t241 == 0),.int .i64 x244002_3,.slice Ao43 t249.length co43,.slice Ao44 t254.length co44,.bool t248,.bool (!t253)] 26 (0,0)) (by (with_reducible repeat (first|refine blk_drewN ?_ _|refine blk_drew ?_|refine blk_alloc ?_ _));exact BK243.out) hb);have n5_:=Aside0.mk (IsS87.below (by repeat (first|(with_reducible first|exact HI0.out|apply IsS87.alloc|apply IsS87.drewN|apply IsS87.drew|apply IsS87.set_1|refine IsS87.far ?_ NB0_240.out _|refine IsS87.far ?_ NB0_243.out _)|exact HI0.out)) hb);have n6_:=Aside0.mk (KeepBut.trans (by repeat (first|(with_reducible first|exact HK.out|apply KeepBut.set_|apply keep_drewN|apply keep_drew|apply keep_alloc|refine keep_far ?_ GW240.out _|refine keep_far ?_ GW243.out _)|exact HK.out)) (KeepBut.of_below hb g none) (.inl rfl));have n7_:=Aside0.mk (below_step (by repeat (first|(with_reducible first|exact HB.out|apply below_alloc|apply pw_below_drewN|apply below_drew1|refine below_set ?_ (IsS87.ge HI0.out)|refine below_set ?_ GE240.out|refine below_set ?_ GE243.out)|exact HB.out)) hb);clear HO251;clear HO256;clear BK240;clear BK243;clear HI0;clear HK;clear HB;have HO251:=n0_;have HO256:=n1_;have HO262:=n2_;have BK240:=n3_;have BK243:=n4_;have HI0:=n5_;have HK:=n6_;have HB:=n7_;clear n0_ n1_ n2_ n3_ n4_ n5_ n6_ n7_;clear hb ho47)|((with_reducible refine gate_callee (f:=49) rfl ?_);refine goesL_ (some 56) rfl rfl Try.func49 (by kernel_rfl) rfl #[.pointer (some ⟨g,0,none⟩),.int .i64 3] rfl (by (try simp only [List.map_toArray,List.map_cons,List.map_nil]);first|done|rfl|(simp only [List.length_drop,List.length_take];rfl)) ?_;(with_reducible refine (spec_l6Rd_pick.calls kj3 g s0_0 t259 3 t263 t264 w0 _ ?side1 ?side2 A35.out).mono ?_);(case side1=>repeat (first|(with_reducible first|exact HI0.out|apply IsS87.alloc|apply IsS87.drewN|apply IsS87.drew|apply IsS87.set_1|refine IsS87.far ?_ NB0_240.out _|refine IsS87.far ?_ NB0_243.out _)|exact HI0.out));(case side2=>repeat (first|(with_reducible first|exact HB.out|apply below_alloc|apply pw_below_drewN|apply below_drew1|refine below_set ?_ (IsS87.ge HI0.out)|refine below_set ?_ GE240.out|refine below_set ?_ GE243.out)|exact HB.out));rintro e w48 ⟨rfl,hi,hb,hk⟩;refine ⟨_,rfl,?_⟩;have n0_:=Aside0.mk (KeepBut.blk hk (g':=gb240) (o:=.cells #[.int .i64 0,.bool false,.int .i64 0,.slice none 0 0,.slice none 0 0,.bool false,.bool false] 26 (0,0)) (by (with_reducible repeat (first|refine blk_drewN ?_ _|refine blk_drew ?_|refine blk_alloc ?_ _));exact BK240.out) NB240_0.out (by simp));have n1_:=Aside0.mk (KeepBut.blk hk (g':=gb243) (o:=.cells #[.int .i64 a1,.bool (t241 == 0),.int .i64 x244002_3,.slice Ao43 t249.length co43,.slice Ao44 t254.length co44,.bool t248,.bool (!t253)] 26 (0,0)) (by (with_reducible repeat (first|refine blk_drewN ?_ _|refine blk_drew ?_|refine blk_alloc ?_ _));exact BK243.out) NB243_0.out (by simp));have n2_:=Aside0.mk (Kd.R_mono (Kd.R_keep (IsS87.apart (show IsS87 w0 _ g s0_0 t259 from by repeat (first|(with_reducible first|exact HI0.out|apply IsS87.alloc|apply IsS87.drewN|apply IsS87.drew|apply IsS87.set_1|refine IsS87.far ?_ NB0_240.out _|refine IsS87.far ?_ NB0_243.out _)|exact HI0.out)) (by (with_reducible repeat (first|apply Kd.R_alloc|apply Kd.R_drewN|apply Kd.R_drew));exact HO251.out) (by decide)) hk (fun _ h=>h.2)) (fun _ h=>h.1));have n3_:=Aside0.mk (Kd.R_mono (Kd.R_keep (IsS87.apart (show IsS87 w0 _ g s0_0 t259 from by repeat (first|(with_reducible first|exact HI0.out|apply IsS87.alloc|apply IsS87.drewN|apply IsS87.drew|apply IsS87.set_1|refine IsS87.far ?_ NB0_240.out _|refine IsS87.far ?_ NB0_243.out _)|exact HI0.out)) (by (with_reducible repeat (first|apply Kd.R_alloc|apply Kd.R_drewN|apply Kd.R_drew));exact HO256.out) (by decide)) hk (fun _ h=>h.2)) (fun _ h=>h.1));have n4_:=Aside0.mk (Kd.R_mono (Kd.R_keep (IsS87.apart (show IsS87 w0 _ g s0_0 t259 from by repeat (first|(with_reducible first|exact HI0.out|apply IsS87.alloc|apply IsS87.drewN|apply IsS87.drew|apply IsS87.set_1|refine IsS87.far ?_ NB0_240.out _|refine IsS87.far ?_ NB0_243.out _)|exact HI0.out)) (by (with_reducible repeat (first|apply Kd.R_alloc|apply Kd.R_drewN|apply Kd.R_drew));exact HO262.out) (by decide)) hk (fun _ h=>h.2)) (fun _ h=>h.1));have n5_:=Aside0.mk (KeepBut.trans (by repeat (first|(with_reducible first|exact HK.out|apply KeepBut.set_|apply keep_drewN|apply keep_drew|apply keep_alloc|refine keep_far ?_ GW240.out _|refine keep_far ?_ GW243.out _)|exact HK.out)) hk (.inl rfl));have n6_:=Aside0.mk (hb);have n7_:=Aside0.mk (hi);clear BK240;clear BK243;clear HO251;clear HO256;clear HO262;clear HK;clear HB;clear HI0;have BK240:=n0_;have BK243:=n1_;have HO251:=n2_;have HO256:=n3_;have HO262:=n4_;have HK:=n5_;have HB:=n6_;have HI0:=n7_;clear n0_ n1_ n2_ n3_ n4_ n5_ n6_ n7_;(try clear hb);(try clear hb2);(try clear hk);(try clear hi);obtain ⟨Ao49,co49,eo49⟩:=Kd.R_slice HO262.out;subst eo49;have p265 : 0 ≤ (t263 : Int):=of_decide_eq_true (by first|(with_reducible assumption)|assumption);have q265 : t263 < (y260.length : Int):=of_decide_eq_true (by first|(with_reducible assumption)|assumption);obtain ⟨ad265,e265,hx265_0⟩:=Kd.at_int (Kd.R_reads' HO262.out).2.2 t263 p265 q265;cases e265;replace p265:=eq_true p265;replace q265:=eq_true q265;have hcz50_0 : w48.cell? ⟨gb243,0,none⟩ = some (.int .i64 a1):=(blk_cell BK243.out 0).trans rfl;have hcz50_1 : w48.cell? ⟨gb243,1,none⟩ = some (.bool (t241 == 0)):=(blk_cell BK243.out 1).trans rfl;have hcz50_2 : w48.cell? ⟨gb243,2,none⟩ = some (.int .i64 x244002_3):=(blk_cell BK243.out 2).trans rfl;have hcz50_3 : w48.cell? ⟨gb243,3,none⟩ = some (.slice Ao43 t249.length co43):=(blk_cell BK243.out 3).trans rfl;have hcz50_4 : w48.cell? ⟨gb243,4,none⟩ = some (.slice Ao44 t254.length co44):=(blk_cell BK243.out 4).trans rfl;have hcz50_5 : w48.cell? ⟨gb243,5,none⟩ = some (.bool t248):=(blk_cell BK243.out 5).trans rfl;have hcz50_6 : w48.cell? ⟨gb243,6,none⟩ = some (.bool (!t253)):=(blk_cell BK243.out 6).trans rfl;have hfz50_0:=blk_frozen BK243.out 0;have hfz50_1:=blk_frozen BK243.out 1;have hfz50_2:=blk_frozen BK243.out 2;have hfz50_3:=blk_frozen BK243.out 3;have hfz50_4:=blk_frozen BK243.out 4;have hfz50_5:=blk_frozen BK243.out 5;have hfz50_6:=blk_frozen BK243.out 6;have hnb51:=NB240_0.out;have hnc51:=NB0_240.out;have hcz52_0 : w48.cell? ⟨gb240,0,none⟩ = some (.int .i64 0):=(blk_cell BK240.out 0).trans rfl;have hcz52_1 : w48.cell? ⟨gb240,1,none⟩ = some (.bool false):=(blk_cell BK240.out 1).trans rfl;have hcz52_2 : w48.cell? ⟨gb240,2,none⟩ = some (.int .i64 0):=(blk_cell BK240.out 2).trans rfl;have hcz52_3 : w48.cell? ⟨gb240,3,none⟩ = some (.slice none 0 0):=(blk_cell BK240.out 3).trans rfl;have hcz52_4 : w48.cell? ⟨gb240,4,none⟩ = some (.slice none 0 0):=(blk_cell BK240.out 4).trans rfl;have hcz52_5 : w48.cell? ⟨gb240,5,none⟩ = some (.bool false):=(blk_cell BK240.out 5).trans rfl;have hcz52_6 : w48.cell? ⟨gb240,6,none⟩ = some (.bool false):=(blk_cell BK240.out 6).trans rfl;have hfz52_0:=blk_frozen BK240.out 0;have hfz52_1:=blk_frozen BK240.out 1;have hfz52_2:=blk_frozen BK240.out 2;have hfz52_3:=blk_frozen BK240.out 3;have hfz52_4:=blk_frozen BK240.out 4;have hfz52_5:=blk_frozen BK240.out 5;have hfz52_6:=blk_frozen BK240.out 6))
       refine bodyPost_ret (results_cell_row rfl _ _ gb240 26 #[.int .i64 (rd y260 t263),.bool (t241 == 0),.int .i64 x244002_3,.slice Ao43 t249.length co43,.slice Ao44 t254.length co44,.bool t248,.bool (!t253)] (0,0) _ rfl (by (with_reducible repeat (first|refine blk_drewN ?_ _|refine blk_drew ?_|refine blk_alloc ?_ _));refine blk_put (cs:=#[.int .i64 (rd y260 t263),.bool (t241 == 0),.int .i64 x244002_3,.slice Ao43 t249.length co43,.slice Ao44 t254.length co44,.bool t248,.bool false]) ?_ 6 _ rfl;(with_reducible repeat (first|refine blk_drewN ?_ _|refine blk_drew ?_|refine blk_alloc ?_ _));refine blk_put (cs:=#[.int .i64 (rd y260 t263),.bool (t241 == 0),.int .i64 x244002_3,.slice Ao43 t249.length co43,.slice Ao44 t254.length co44,.bool false,.bool false]) ?_ 5 _ rfl;(with_reducible repeat (first|refine blk_drewN ?_ _|refine blk_drew ?_|refine blk_alloc ?_ _));refine blk_put (cs:=#[.int .i64 (rd y260 t263),.bool (t241 == 0),.int .i64 x244002_3,.slice Ao43 t249.length co43,.slice none 0 0,.bool false,.bool false]) ?_ 4 _ rfl;(with_reducible repeat (first|refine blk_drewN ?_ _|refine blk_drew ?_|refine blk_alloc ?_ _));refine blk_put (cs:=#[.int .i64 (rd y260 t263),.bool (t241 == 0),.int .i64 x244002_3,.slice none 0 0,.slice none 0 0,.bool false,.bool false]) ?_ 3 _ rfl;(with_reducible repeat (first|refine blk_drewN ?_ _|refine blk_drew ?_|refine blk_alloc ?_ _));refine blk_put (cs:=#[.int .i64 (rd y260 t263),.bool (t241 == 0),.int .i64 0,.slice none 0 0,.slice none 0 0,.bool false,.bool false]) ?_ 2 _ rfl;(with_reducible repeat (first|refine blk_drewN ?_ _|refine blk_drew ?_|refine blk_alloc ?_ _));refine blk_put (cs:=#[.int .i64 (rd y260 t263),.bool false,.int .i64 0,.slice none 0 0,.slice none 0 0,.bool false,.bool false]) ?_ 1 _ rfl;(with_reducible repeat (first|refine blk_drewN ?_ _|refine blk_drew ?_|refine blk_alloc ?_ _));refine blk_put (cs:=#[.int .i64 0,.bool false,.int .i64 0,.slice none 0 0,.slice none 0 0,.bool false,.bool false]) ?_ 0 _ rfl;(with_reducible repeat (first|refine blk_drewN ?_ _|refine blk_drew ?_|refine blk_alloc ?_ _));refine blk_far ?_ NB240_243.out _;(with_reducible repeat (first|refine blk_drewN ?_ _|refine blk_drew ?_|refine blk_alloc ?_ _));exact BK240.out) Try.underlying26 rfl (by kernel_rfl)) rfl ?_
       exact ⟨_,_,by first|rfl|(simp [errW_none,errW_some] <;> rfl)|(simp [*,errW_none,errW_some] <;> rfl),by (with_reducible repeat (first|apply Kd.R_alloc|apply Kd.R_drewN|apply Kd.R_drew));exact Kd.R_mono (Kd.R_far (p:=⟨gb240,6,none⟩) (Kd.R_far (p:=⟨gb240,5,none⟩) (Kd.R_far (p:=⟨gb240,4,none⟩) (Kd.R_far (p:=⟨gb240,3,none⟩) (Kd.R_far (p:=⟨gb240,2,none⟩) (Kd.R_far (p:=⟨gb240,1,none⟩) (Kd.R_far (p:=⟨gb240,0,none⟩) (Kd.R_far (p:=⟨gb243,0,none⟩) (Kd.R_types (Kd.R_types HO251.out BK243.out (by decide)) BK240.out (by decide)) (fun _ hk=>hk.1.2) (.int .i64 (rd y260 t263))) (fun _ hk=>hk.2) (.int .i64 (rd y260 t263))) (fun _ hk=>hk.2) (.bool (t241 == 0))) (fun _ hk=>hk.2) (.int .i64 x244002_3)) (fun _ hk=>hk.2) (.slice Ao43 t249.length co43)) (fun _ hk=>hk.2) (.slice Ao44 t254.length co44)) (fun _ hk=>hk.2) (.bool t248)) (fun _ hk=>hk.2) (.bool (!t253))) (fun _ hk=>hk.1.1.1.2),by (with_reducible repeat (first|apply Kd.R_alloc|apply Kd.R_drewN|apply Kd.R_drew));exact Kd.R_mono (Kd.R_far (p:=⟨gb240,6,none⟩) (Kd.R_far (p:=⟨gb240,5,none⟩) (Kd.R_far (p:=⟨gb240,4,none⟩) (Kd.R_far (p:=⟨gb240,3,none⟩) (Kd.R_far (p:=⟨gb240,2,none⟩) (Kd.R_far (p:=⟨gb240,1,none⟩) (Kd.R_far (p:=⟨gb240,0,none⟩) (Kd.R_far (p:=⟨gb243,0,none⟩) (Kd.R_types (Kd.R_types HO256.out BK243.out (by decide)) BK240.out (by decide)) (fun _ hk=>hk.1.2) (.int .i64 (rd y260 t263))) (fun _ hk=>hk.2) (.int .i64 (rd y260 t263))) (fun _ hk=>hk.2) (.bool (t241 == 0))) (fun _ hk=>hk.2) (.int .i64 x244002_3)) (fun _ hk=>hk.2) (.slice Ao43 t249.length co43)) (fun _ hk=>hk.2) (.slice Ao44 t254.length co44)) (fun _ hk=>hk.2) (.bool t248)) (fun _ hk=>hk.2) (.bool (!t253))) (fun _ hk=>hk.1.1.1.2),by repeat (first|(with_reducible first|exact HI0.out|apply IsS87.alloc|apply IsS87.drewN|apply IsS87.drew|apply IsS87.set_1|refine IsS87.far ?_ NB0_240.out _|refine IsS87.far ?_ NB0_243.out _)|exact HI0.out),by repeat (first|(with_reducible first|exact HB.out|apply below_alloc|apply pw_below_drewN|apply below_drew1|refine below_set ?_ (IsS87.ge HI0.out)|refine below_set ?_ GE240.out|refine below_set ?_ GE243.out)|exact HB.out),by repeat (first|(with_reducible first|exact HK.out|apply KeepBut.set_|apply keep_drewN|apply keep_drew|apply keep_alloc|refine keep_far ?_ GW240.out _|refine keep_far ?_ GW243.out _)|exact HK.out)⟩
      ·rw [if_neg c37] at H
       exact absurd H (by simp)
     ·rw [if_neg c36] at H
      exact absurd H (by simp)
    ·rw [if_neg c34] at H
     have c34b0 : (t258 == 1)=false:=beq_eq_false_iff_ne.mpr c34
     have c34b1 : (t258 != 1)=true:=bne_iff_ne.mpr c34
     simp only [Option.some.injEq,Prod.mk.injEq] at H
     obtain ⟨rfl,rfl,rfl,rfl,rfl,rfl,rfl,rfl⟩:=H
     go_wp2_with (first|((with_reducible refine gate_callee (f:=73) rfl ?_);refine goesL_ (some 27) rfl rfl Try.func73 (by kernel_rfl) rfl #[.pointer (some ⟨g,0,none⟩)] rfl (by (try simp only [List.map_toArray,List.map_cons,List.map_nil]);first|done|rfl|(simp only [List.length_drop,List.length_take];rfl)) ?_;(with_reducible refine (spec_l91Part.calls kj3 g s0_0 x1001_3 t248 t249 t252 w0 _ ?side1 ?side2 A19.out).mono ?_);(case side1=>repeat (first|(with_reducible first|exact HI0.out|apply IsS87.alloc|apply IsS87.drewN|apply IsS87.drew|apply IsS87.set_1|refine IsS87.far ?_ NB0_240.out _|refine IsS87.far ?_ NB0_243.out _)|exact HI0.out));(case side2=>repeat (first|(with_reducible first|exact HB.out|apply below_alloc|apply pw_below_drewN|apply below_drew1|refine below_set ?_ (IsS87.ge HI0.out)|refine below_set ?_ GE240.out|refine below_set ?_ GE243.out)|exact HB.out));rintro e w53 ⟨v250,rfl,ho0,hi,hb,hk⟩;refine ⟨_,rfl,?_⟩;have n0_:=Aside0.mk (KeepBut.blk hk (g':=gb240) (o:=.cells #[.int .i64 0,.bool false,.int .i64 0,.slice none 0 0,.slice none 0 0,.bool false,.bool false] 26 (0,0)) (by (with_reducible repeat (first|refine blk_drewN ?_ _|refine blk_drew ?_|refine blk_alloc ?_ _));exact BK240.out) NB240_0.out (by simp));have n1_:=Aside0.mk (KeepBut.blk hk (g':=gb243) (o:=.cells #[.int .i64 a1,.bool (t241 == 0),.int .i64 x244002_3,.slice none 0 0,.slice none 0 0,.bool false,.bool false] 26 (0,0)) (by (with_reducible repeat (first|refine blk_drewN ?_ _|refine blk_drew ?_|refine blk_alloc ?_ _));exact BK243.out) NB243_0.out (by simp));have n2_:=Aside0.mk (Kd.R_lower ho0 (keep_size (w:=w) (g:=g) (row:=none) (by repeat (first|(with_reducible first|exact HK.out|apply KeepBut.set_|apply keep_drewN|apply keep_drew|apply keep_alloc|refine keep_far ?_ GW240.out _|refine keep_far ?_ GW243.out _)|exact HK.out))));have n3_:=Aside0.mk (KeepBut.trans (by repeat (first|(with_reducible first|exact HK.out|apply KeepBut.set_|apply keep_drewN|apply keep_drew|apply keep_alloc|refine keep_far ?_ GW240.out _|refine keep_far ?_ GW243.out _)|exact HK.out)) hk (.inl rfl));have n4_:=Aside0.mk (hb);have n5_:=Aside0.mk (hi);clear BK240;clear BK243;clear HK;clear HB;clear HI0;have BK240:=n0_;have BK243:=n1_;have HO251:=n2_;have HK:=n3_;have HB:=n4_;have HI0:=n5_;clear n0_ n1_ n2_ n3_ n4_ n5_;(try clear hb);(try clear hb2);(try clear hk);(try clear hi);(try clear ho0))|((with_reducible refine gate_callee (f:=73) rfl ?_);refine goesL_ (some 32) rfl rfl Try.func73 (by kernel_rfl) rfl #[.pointer (some ⟨g,0,none⟩)] rfl (by (try simp only [List.map_toArray,List.map_cons,List.map_nil]);first|done|rfl|(simp only [List.length_drop,List.length_take];rfl)) ?_;(with_reducible refine (spec_l91Part.calls kj3 g s0_0 t252 t253 t254 t257 w0 _ ?side1 ?side2 A20.out).mono ?_);(case side1=>repeat (first|(with_reducible first|exact HI0.out|apply IsS87.alloc|apply IsS87.drewN|apply IsS87.drew|apply IsS87.set_1|refine IsS87.far ?_ NB0_240.out _|refine IsS87.far ?_ NB0_243.out _)|exact HI0.out));(case side2=>repeat (first|(with_reducible first|exact HB.out|apply below_alloc|apply pw_below_drewN|apply below_drew1|refine below_set ?_ (IsS87.ge HI0.out)|refine below_set ?_ GE240.out|refine below_set ?_ GE243.out)|exact HB.out));rintro e w54 ⟨v255,rfl,ho0,hi,hb,hk⟩;refine ⟨_,rfl,?_⟩;have n0_:=Aside0.mk (KeepBut.blk hk (g':=gb240) (o:=.cells #[.int .i64 0,.bool false,.int .i64 0,.slice none 0 0,.slice none 0 0,.bool false,.bool false] 26 (0,0)) (by (with_reducible repeat (first|refine blk_drewN ?_ _|refine blk_drew ?_|refine blk_alloc ?_ _));exact BK240.out) NB240_0.out (by simp));have n1_:=Aside0.mk (KeepBut.blk hk (g':=gb243) (o:=.cells #[.int .i64 a1,.bool (t241 == 0),.int .i64 x244002_3,.slice none 0 0,.slice none 0 0,.bool false,.bool false] 26 (0,0)) (by (with_reducible repeat (first|refine blk_drewN ?_ _|refine blk_drew ?_|refine blk_alloc ?_ _));exact BK243.out) NB243_0.out (by simp));have n2_:=Aside0.mk (Kd.R_mono (Kd.R_told (Kd.R_oldK (IsS87.apart (show IsS87 w0 _ g s0_0 t252 from by repeat (first|(with_reducible first|exact HI0.out|apply IsS87.alloc|apply IsS87.drewN|apply IsS87.drew|apply IsS87.set_1|refine IsS87.far ?_ NB0_240.out _|refine IsS87.far ?_ NB0_243.out _)|exact HI0.out)) (by (with_reducible repeat (first|apply Kd.R_alloc|apply Kd.R_drewN|apply Kd.R_drew));exact HO251.out) (by decide)) hk) (Kd.R_base ho0)) (fun _ h_=>h_.1));have n3_:=Aside0.mk (Kd.R_lower (Kd.R_new' ho0 (Kd.R_lt (by (with_reducible repeat (first|apply Kd.R_alloc|apply Kd.R_drewN|apply Kd.R_drew));exact HO251.out))) (keep_size (w:=w) (g:=g) (row:=none) (by repeat (first|(with_reducible first|exact HK.out|apply KeepBut.set_|apply keep_drewN|apply keep_drew|apply keep_alloc|refine keep_far ?_ GW240.out _|refine keep_far ?_ GW243.out _)|exact HK.out))));have n4_:=Aside0.mk (KeepBut.trans (by repeat (first|(with_reducible first|exact HK.out|apply KeepBut.set_|apply keep_drewN|apply keep_drew|apply keep_alloc|refine keep_far ?_ GW240.out _|refine keep_far ?_ GW243.out _)|exact HK.out)) hk (.inl rfl));have n5_:=Aside0.mk (hb);have n6_:=Aside0.mk (hi);clear BK240;clear BK243;clear HO251;clear HK;clear HB;clear HI0;have BK240:=n0_;have BK243:=n1_;have HO251:=n2_;have HO256:=n3_;have HK:=n4_;have HB:=n5_;have HI0:=n6_;clear n0_ n1_ n2_ n3_ n4_ n5_ n6_;(try clear hb);(try clear hb2);(try clear hk);(try clear hi);(try clear ho0);have hnb55:=NB243_240.out;have hnc55:=NB240_243.out;have hnb56:=NB243_0.out;have hnc56:=NB0_243.out;have hcz57_0 : w54.cell? ⟨gb243,0,none⟩ = some (.int .i64 a1):=(blk_cell BK243.out 0).trans rfl;have hcz57_1 : w54.cell? ⟨gb243,1,none⟩ = some (.bool (t241 == 0)):=(blk_cell BK243.out 1).trans rfl;have hcz57_2 : w54.cell? ⟨gb243,2,none⟩ = some (.int .i64 x244002_3):=(blk_cell BK243.out 2).trans rfl;have hcz57_3 : w54.cell? ⟨gb243,3,none⟩ = some (.slice none 0 0):=(blk_cell BK243.out 3).trans rfl;have hcz57_4 : w54.cell? ⟨gb243,4,none⟩ = some (.slice none 0 0):=(blk_cell BK243.out 4).trans rfl;have hcz57_5 : w54.cell? ⟨gb243,5,none⟩ = some (.bool false):=(blk_cell BK243.out 5).trans rfl;have hcz57_6 : w54.cell? ⟨gb243,6,none⟩ = some (.bool false):=(blk_cell BK243.out 6).trans rfl;have hfz57_0:=blk_frozen BK243.out 0;have hfz57_1:=blk_frozen BK243.out 1;have hfz57_2:=blk_frozen BK243.out 2;have hfz57_3:=blk_frozen BK243.out 3;have hfz57_4:=blk_frozen BK243.out 4;have hfz57_5:=blk_frozen BK243.out 5;have hfz57_6:=blk_frozen BK243.out 6;obtain ⟨Ao58,co58,eo58⟩:=Kd.R_slice HO251.out;subst eo58;obtain ⟨Ao59,co59,eo59⟩:=Kd.R_slice HO256.out;subst eo59)|((with_reducible refine gate_callee (f:=49) rfl ?_);refine goesL_ (some 45) rfl rfl Try.func49 (by kernel_rfl) rfl #[.pointer (some ⟨g,0,none⟩),.int .i64 40] rfl (by (try simp only [List.map_toArray,List.map_cons,List.map_nil]);first|done|rfl|(simp only [List.length_drop,List.length_take];rfl)) ?_;(with_reducible refine (spec_l6Rd_pick.calls kj3 g s0_0 t257 40 t258 t259 w0 _ ?side1 ?side2 A21.out).mono ?_);(case side1=>repeat (first|(with_reducible first|exact HI0.out|apply IsS87.alloc|apply IsS87.drewN|apply IsS87.drew|apply IsS87.set_1|refine IsS87.far ?_ NB0_240.out _|refine IsS87.far ?_ NB0_243.out _)|exact HI0.out));(case side2=>repeat (first|(with_reducible first|exact HB.out|apply below_alloc|apply pw_below_drewN|apply below_drew1|refine below_set ?_ (IsS87.ge HI0.out)|refine below_set ?_ GE240.out|refine below_set ?_ GE243.out)|exact HB.out));rintro e w60 ⟨rfl,hi,hb,hk⟩;refine ⟨_,rfl,?_⟩;have n0_:=Aside0.mk (KeepBut.blk hk (g':=gb240) (o:=.cells #[.int .i64 0,.bool false,.int .i64 0,.slice none 0 0,.slice none 0 0,.bool false,.bool false] 26 (0,0)) (by (with_reducible repeat (first|refine blk_drewN ?_ _|refine blk_drew ?_|refine blk_alloc ?_ _));refine blk_far ?_ NB240_243.out _;(with_reducible repeat (first|refine blk_drewN ?_ _|refine blk_drew ?_|refine blk_alloc ?_ _));refine blk_far ?_ NB240_243.out _;(with_reducible repeat (first|refine blk_drewN ?_ _|refine blk_drew ?_|refine blk_alloc ?_ _));refine blk_far ?_ NB240_243.out _;(with_reducible repeat (first|refine blk_drewN ?_ _|refine blk_drew ?_|refine blk_alloc ?_ _));refine blk_far ?_ NB240_243.out _;(with_reducible repeat (first|refine blk_drewN ?_ _|refine blk_drew ?_|refine blk_alloc ?_ _));exact BK240.out) NB240_0.out (by simp));have n1_:=Aside0.mk (KeepBut.blk hk (g':=gb243) (o:=.cells #[.int .i64 a1,.bool (t241 == 0),.int .i64 x244002_3,.slice Ao58 t249.length co58,.slice Ao59 t254.length co59,.bool t248,.bool (!t253)] 26 (0,0)) (by (with_reducible repeat (first|refine blk_drewN ?_ _|refine blk_drew ?_|refine blk_alloc ?_ _));refine blk_put (cs:=#[.int .i64 a1,.bool (t241 == 0),.int .i64 x244002_3,.slice Ao58 t249.length co58,.slice none 0 0,.bool t248,.bool (!t253)]) ?_ 4 _ rfl;(with_reducible repeat (first|refine blk_drewN ?_ _|refine blk_drew ?_|refine blk_alloc ?_ _));refine blk_put (cs:=#[.int .i64 a1,.bool (t241 == 0),.int .i64 x244002_3,.slice Ao58 t249.length co58,.slice none 0 0,.bool t248,.bool false]) ?_ 6 _ rfl;(with_reducible repeat (first|refine blk_drewN ?_ _|refine blk_drew ?_|refine blk_alloc ?_ _));refine blk_put (cs:=#[.int .i64 a1,.bool (t241 == 0),.int .i64 x244002_3,.slice none 0 0,.slice none 0 0,.bool t248,.bool false]) ?_ 3 _ rfl;(with_reducible repeat (first|refine blk_drewN ?_ _|refine blk_drew ?_|refine blk_alloc ?_ _));refine blk_put (cs:=#[.int .i64 a1,.bool (t241 == 0),.int .i64 x244002_3,.slice none 0 0,.slice none 0 0,.bool false,.bool false]) ?_ 5 _ rfl;(with_reducible repeat (first|refine blk_drewN ?_ _|refine blk_drew ?_|refine blk_alloc ?_ _));exact BK243.out) NB243_0.out (by simp));have n2_:=Aside0.mk (Kd.R_mono (Kd.R_keep (IsS87.apart (show IsS87 w0 _ g s0_0 t257 from by repeat (first|(with_reducible first|exact HI0.out|apply IsS87.alloc|apply IsS87.drewN|apply IsS87.drew|apply IsS87.set_1|refine IsS87.far ?_ NB0_240.out _|refine IsS87.far ?_ NB0_243.out _)|exact HI0.out)) (by (with_reducible repeat (first|apply Kd.R_alloc|apply Kd.R_drewN|apply Kd.R_drew));exact (Kd.R_mono (Kd.R_far (p:=⟨gb243,4,none⟩) (Kd.R_far (p:=⟨gb243,6,none⟩) (Kd.R_far (p:=⟨gb243,3,none⟩) (Kd.R_far (p:=⟨gb243,5,none⟩) (Kd.R_types HO251.out BK243.out (by decide)) (fun _ hk=>hk.2) (.bool t248)) (fun _ hk=>hk.2) (.slice Ao58 t249.length co58)) (fun _ hk=>hk.2) (.bool (!t253))) (fun _ hk=>hk.2) (.slice Ao59 t254.length co59)) (fun _ h_=>h_.1))) (by decide)) hk (fun _ h=>h.2)) (fun _ h=>h.1));have n3_:=Aside0.mk (Kd.R_mono (Kd.R_keep (IsS87.apart (show IsS87 w0 _ g s0_0 t257 from by repeat (first|(with_reducible first|exact HI0.out|apply IsS87.alloc|apply IsS87.drewN|apply IsS87.drew|apply IsS87.set_1|refine IsS87.far ?_ NB0_240.out _|refine IsS87.far ?_ NB0_243.out _)|exact HI0.out)) (by (with_reducible repeat (first|apply Kd.R_alloc|apply Kd.R_drewN|apply Kd.R_drew));exact (Kd.R_mono (Kd.R_far (p:=⟨gb243,4,none⟩) (Kd.R_far (p:=⟨gb243,6,none⟩) (Kd.R_far (p:=⟨gb243,3,none⟩) (Kd.R_far (p:=⟨gb243,5,none⟩) (Kd.R_types HO256.out BK243.out (by decide)) (fun _ hk=>hk.2) (.bool t248)) (fun _ hk=>hk.2) (.slice Ao58 t249.length co58)) (fun _ hk=>hk.2) (.bool (!t253))) (fun _ hk=>hk.2) (.slice Ao59 t254.length co59)) (fun _ h_=>h_.1))) (by decide)) hk (fun _ h=>h.2)) (fun _ h=>h.1));have n4_:=Aside0.mk (KeepBut.trans (by repeat (first|(with_reducible first|exact HK.out|apply KeepBut.set_|apply keep_drewN|apply keep_drew|apply keep_alloc|refine keep_far ?_ GW240.out _|refine keep_far ?_ GW243.out _)|exact HK.out)) hk (.inl rfl));have n5_:=Aside0.mk (hb);have n6_:=Aside0.mk (hi);clear BK240;clear BK243;clear HO251;clear HO256;clear HK;clear HB;clear HI0;have BK240:=n0_;have BK243:=n1_;have HO251:=n2_;have HO256:=n3_;have HK:=n4_;have HB:=n5_;have HI0:=n6_;clear n0_ n1_ n2_ n3_ n4_ n5_ n6_;(try clear hb);(try clear hb2);(try clear hk);(try clear hi);have hcz61_0 : w60.cell? ⟨gb243,0,none⟩ = some (.int .i64 a1):=(blk_cell BK243.out 0).trans rfl;have hcz61_1 : w60.cell? ⟨gb243,1,none⟩ = some (.bool (t241 == 0)):=(blk_cell BK243.out 1).trans rfl;have hcz61_2 : w60.cell? ⟨gb243,2,none⟩ = some (.int .i64 x244002_3):=(blk_cell BK243.out 2).trans rfl;have hcz61_3 : w60.cell? ⟨gb243,3,none⟩ = some (.slice Ao58 t249.length co58):=(blk_cell BK243.out 3).trans rfl;have hcz61_4 : w60.cell? ⟨gb243,4,none⟩ = some (.slice Ao59 t254.length co59):=(blk_cell BK243.out 4).trans rfl;have hcz61_5 : w60.cell? ⟨gb243,5,none⟩ = some (.bool t248):=(blk_cell BK243.out 5).trans rfl;have hcz61_6 : w60.cell? ⟨gb243,6,none⟩ = some (.bool (!t253)):=(blk_cell BK243.out 6).trans rfl;have hfz61_0:=blk_frozen BK243.out 0;have hfz61_1:=blk_frozen BK243.out 1;have hfz61_2:=blk_frozen BK243.out 2;have hfz61_3:=blk_frozen BK243.out 3;have hfz61_4:=blk_frozen BK243.out 4;have hfz61_5:=blk_frozen BK243.out 5;have hfz61_6:=blk_frozen BK243.out 6;have hnb62:=NB240_0.out;have hnc62:=NB0_240.out;have hcz63_0 : w60.cell? ⟨gb240,0,none⟩ = some (.int .i64 0):=(blk_cell BK240.out 0).trans rfl;have hcz63_1 : w60.cell? ⟨gb240,1,none⟩ = some (.bool false):=(blk_cell BK240.out 1).trans rfl;have hcz63_2 : w60.cell? ⟨gb240,2,none⟩ = some (.int .i64 0):=(blk_cell BK240.out 2).trans rfl;have hcz63_3 : w60.cell? ⟨gb240,3,none⟩ = some (.slice none 0 0):=(blk_cell BK240.out 3).trans rfl;have hcz63_4 : w60.cell? ⟨gb240,4,none⟩ = some (.slice none 0 0):=(blk_cell BK240.out 4).trans rfl;have hcz63_5 : w60.cell? ⟨gb240,5,none⟩ = some (.bool false):=(blk_cell BK240.out 5).trans rfl;have hcz63_6 : w60.cell? ⟨gb240,6,none⟩ = some (.bool false):=(blk_cell BK240.out 6).trans rfl;have hfz63_0:=blk_frozen BK240.out 0;have hfz63_1:=blk_frozen BK240.out 1;have hfz63_2:=blk_frozen BK240.out 2;have hfz63_3:=blk_frozen BK240.out 3;have hfz63_4:=blk_frozen BK240.out 4;have hfz63_5:=blk_frozen BK240.out 5;have hfz63_6:=blk_frozen BK240.out 6))
     refine bodyPost_ret (results_cell_row rfl _ _ gb240 26 #[.int .i64 a1,.bool (t241 == 0),.int .i64 x244002_3,.slice Ao58 t249.length co58,.slice Ao59 t254.length co59,.bool t248,.bool (!t253)] (0,0) _ rfl (by (with_reducible repeat (first|refine blk_drewN ?_ _|refine blk_drew ?_|refine blk_alloc ?_ _));refine blk_put (cs:=#[.int .i64 a1,.bool (t241 == 0),.int .i64 x244002_3,.slice Ao58 t249.length co58,.slice Ao59 t254.length co59,.bool t248,.bool false]) ?_ 6 _ rfl;(with_reducible repeat (first|refine blk_drewN ?_ _|refine blk_drew ?_|refine blk_alloc ?_ _));refine blk_put (cs:=#[.int .i64 a1,.bool (t241 == 0),.int .i64 x244002_3,.slice Ao58 t249.length co58,.slice Ao59 t254.length co59,.bool false,.bool false]) ?_ 5 _ rfl;(with_reducible repeat (first|refine blk_drewN ?_ _|refine blk_drew ?_|refine blk_alloc ?_ _));refine blk_put (cs:=#[.int .i64 a1,.bool (t241 == 0),.int .i64 x244002_3,.slice Ao58 t249.length co58,.slice none 0 0,.bool false,.bool false]) ?_ 4 _ rfl;(with_reducible repeat (first|refine blk_drewN ?_ _|refine blk_drew ?_|refine blk_alloc ?_ _));refine blk_put (cs:=#[.int .i64 a1,.bool (t241 == 0),.int .i64 x244002_3,.slice none 0 0,.slice none 0 0,.bool false,.bool false]) ?_ 3 _ rfl;(with_reducible repeat (first|refine blk_drewN ?_ _|refine blk_drew ?_|refine blk_alloc ?_ _));refine blk_put (cs:=#[.int .i64 a1,.bool (t241 == 0),.int .i64 0,.slice none 0 0,.slice none 0 0,.bool false,.bool false]) ?_ 2 _ rfl;(with_reducible repeat (first|refine blk_drewN ?_ _|refine blk_drew ?_|refine blk_alloc ?_ _));refine blk_put (cs:=#[.int .i64 a1,.bool false,.int .i64 0,.slice none 0 0,.slice none 0 0,.bool false,.bool false]) ?_ 1 _ rfl;(with_reducible repeat (first|refine blk_drewN ?_ _|refine blk_drew ?_|refine blk_alloc ?_ _));refine blk_put (cs:=#[.int .i64 0,.bool false,.int .i64 0,.slice none 0 0,.slice none 0 0,.bool false,.bool false]) ?_ 0 _ rfl;(with_reducible repeat (first|refine blk_drewN ?_ _|refine blk_drew ?_|refine blk_alloc ?_ _));exact BK240.out) Try.underlying26 rfl (by kernel_rfl)) rfl ?_
     exact ⟨_,_,by first|rfl|(simp [errW_none,errW_some] <;> rfl)|(simp [*,errW_none,errW_some] <;> rfl),by (with_reducible repeat (first|apply Kd.R_alloc|apply Kd.R_drewN|apply Kd.R_drew));exact Kd.R_mono (Kd.R_far (p:=⟨gb240,6,none⟩) (Kd.R_far (p:=⟨gb240,5,none⟩) (Kd.R_far (p:=⟨gb240,4,none⟩) (Kd.R_far (p:=⟨gb240,3,none⟩) (Kd.R_far (p:=⟨gb240,2,none⟩) (Kd.R_far (p:=⟨gb240,1,none⟩) (Kd.R_far (p:=⟨gb240,0,none⟩) (Kd.R_types HO251.out BK240.out (by decide)) (fun _ hk=>hk.2) (.int .i64 a1)) (fun _ hk=>hk.2) (.bool (t241 == 0))) (fun _ hk=>hk.2) (.int .i64 x244002_3)) (fun _ hk=>hk.2) (.slice Ao58 t249.length co58)) (fun _ hk=>hk.2) (.slice Ao59 t254.length co59)) (fun _ hk=>hk.2) (.bool t248)) (fun _ hk=>hk.2) (.bool (!t253))) (fun _ hk=>hk.1.2),by (with_reducible repeat (first|apply Kd.R_alloc|apply Kd.R_drewN|apply Kd.R_drew));exact Kd.R_mono (Kd.R_far (p:=⟨gb240,6,none⟩) (Kd.R_far (p:=⟨gb240,5,none⟩) (Kd.R_far (p:=⟨gb240,4,none⟩) (Kd.R_far (p:=⟨gb240,3,none⟩) (Kd.R_far (p:=⟨gb240,2,none⟩) (Kd.R_far (p:=⟨gb240,1,none⟩) (Kd.R_far (p:=⟨gb240,0,none⟩) (Kd.R_types HO256.out BK240.out (by decide)) (fun _ hk=>hk.2) (.int .i64 a1)) (fun _ hk=>hk.2) (.bool (t241 == 0))) (fun _ hk=>hk.2) (.int .i64 x244002_3)) (fun _ hk=>hk.2) (.slice Ao58 t249.length co58)) (fun _ hk=>hk.2) (.slice Ao59 t254.length co59)) (fun _ hk=>hk.2) (.bool t248)) (fun _ hk=>hk.2) (.bool (!t253))) (fun _ hk=>hk.1.2),by repeat (first|(with_reducible first|exact HI0.out|apply IsS87.alloc|apply IsS87.drewN|apply IsS87.drew|apply IsS87.set_1|refine IsS87.far ?_ NB0_240.out _|refine IsS87.far ?_ NB0_243.out _)|exact HI0.out),by repeat (first|(with_reducible first|exact HB.out|apply below_alloc|apply pw_below_drewN|apply below_drew1|refine below_set ?_ (IsS87.ge HI0.out)|refine below_set ?_ GE240.out|refine below_set ?_ GE243.out)|exact HB.out),by repeat (first|(with_reducible first|exact HK.out|apply KeepBut.set_|apply keep_drewN|apply keep_drew|apply keep_alloc|refine keep_far ?_ GW240.out _|refine keep_far ?_ GW243.out _)|exact HK.out)⟩

/-! ### spec_DrawOldTurn: function 36 -/
mutual
def spec_DrawOldTurn.j0 : Nat→List (S26)→Int→List Int→Int→Option ((List (S26)) × Bool)
 | 0,_,_,_,_=>none
 | k + 1,x5,x6,x269000,x269001=>(spec_l6Rd_pick.f k x269000 x269001 30).bind fun bt282=>(spec_DrawOldTurn.l0 k x5 x6 bt282.1 0 x269000 bt282.2)
def spec_DrawOldTurn.l0 : Nat→List (S26)→Int→Int→Int→List Int→Int→Option ((List (S26)) × Bool)
 | 0,_,_,_,_,_,_=>none
 | k + 1,x5,x6,x7,x8,x269000,x269001=>if x8 < x6 then ((spec_l91Old.f k x269000 x269001 x7).bind fun bt284=>(if x5.length < 1759218604441 then ((spec_l6Rd_pick.f k x269000 bt284.2.2.2.2.2.2.2 3).bind fun bt299=>((spec_l6Rd_pick.f k x269000 bt299.2 20).bind fun bt301=>(spec_DrawOldTurn.l0 k (x5 ++ [(⟨bt284.1,bt284.2.1,bt284.2.2.1,bt284.2.2.2.1,bt284.2.2.2.2.1,bt284.2.2.2.2.2.1,bt284.2.2.2.2.2.2.1⟩ : S26)]) x6 (wrap64 ((wrap64 ((wrap64 (x7 + 1)) + bt299.1)) - (wrap64 (Int.tdiv bt301.1 19)))) (wrap64 (x8 + 1)) x269000 bt301.2))) else (none))) else ((spec_l6Rd_pick.f k x269000 x269001 2).bind fun bt303=>(some (x5,(bt303.1 == 0))))
end
def spec_DrawOldTurn.f (k : Nat) (l0 : List Int) : Option ((List (S26)) × Bool):=(spec_l6Open.f l0).bind fun bt266=>((some (([] : List (S26)) : List (S26))).bind fun y269=>((spec_l6Rd_pick.f k bt266.1 bt266.2 5).bind fun bt272=>((spec_l6Rd_pick.f k bt266.1 bt272.2 20).bind fun bt274=>(if bt274.1=0 then ((some (([0,6,7] : List Int) : List Int)).bind fun y276=>((spec_l6Rd_pick.f k bt266.1 bt274.2 3).bind fun bt279=>(if 0 ≤ bt279.1 then (if bt279.1 < (y276.length : Int) then (spec_DrawOldTurn.j0 k y269 (rd y276 bt279.1) bt266.1 bt279.2) else (none)) else (none)))) else (spec_DrawOldTurn.j0 k y269 (wrap64 (1 + bt272.1)) bt266.1 bt274.2)))))
theorem spec_DrawOldTurn.mono_l : ∀ k,(∀ y0 y1 y2 y3,LeO (spec_DrawOldTurn.j0 k y0 y1 y2 y3) (spec_DrawOldTurn.j0 (k + 1) y0 y1 y2 y3))∧(∀ y0 y1 y2 y3 y4 y5,LeO (spec_DrawOldTurn.l0 k y0 y1 y2 y3 y4 y5) (spec_DrawOldTurn.l0 (k + 1) y0 y1 y2 y3 y4 y5))
 | 0=>⟨fun _ _ _ _ r h=>by simp [spec_DrawOldTurn.j0] at h,fun _ _ _ _ _ _ r h=>by simp [spec_DrawOldTurn.l0] at h⟩
 | k + 1=>by
  obtain ⟨ih0,ih1⟩:=spec_DrawOldTurn.mono_l k
  refine ⟨?_,?_⟩
  ·intro y0 y1 y2 y3
   unfold spec_DrawOldTurn.j0
   repeat' first
   | (with_reducible exact ih0 _ _ _ _)
   | (with_reducible exact ih1 _ _ _ _ _ _)
   | (with_reducible exact spec_l6Rd_pick.mono _ _ _ _)
   | (with_reducible exact spec_l91Old.mono _ _ _ _)
   | (with_reducible exact LeO.refl _)
   | (with_reducible exact LeO.none _)
   | (with_reducible refine LeO.ite ?_ ?_)
   | (with_reducible refine LeO.bind ?_ (fun _=>?_))
   | exact ih0 _ _ _ _
   | exact ih1 _ _ _ _ _ _
   | exact spec_l6Rd_pick.mono _ _ _ _
   | exact spec_l91Old.mono _ _ _ _
   | exact LeO.none _
   | refine LeO.ite ?_ ?_
   | refine LeO.bind ?_ (fun _=>?_)
  ·intro y0 y1 y2 y3 y4 y5
   unfold spec_DrawOldTurn.l0
   repeat' first
   | (with_reducible exact ih0 _ _ _ _)
   | (with_reducible exact ih1 _ _ _ _ _ _)
   | (with_reducible exact spec_l6Rd_pick.mono _ _ _ _)
   | (with_reducible exact spec_l91Old.mono _ _ _ _)
   | (with_reducible exact LeO.refl _)
   | (with_reducible exact LeO.none _)
   | (with_reducible refine LeO.ite ?_ ?_)
   | (with_reducible refine LeO.bind ?_ (fun _=>?_))
   | exact ih0 _ _ _ _
   | exact ih1 _ _ _ _ _ _
   | exact spec_l6Rd_pick.mono _ _ _ _
   | exact spec_l91Old.mono _ _ _ _
   | exact LeO.none _
   | refine LeO.ite ?_ ?_
   | refine LeO.bind ?_ (fun _=>?_)
theorem spec_DrawOldTurn.mono : ∀ a0 k,LeO (spec_DrawOldTurn.f k a0) (spec_DrawOldTurn.f (k + 1) a0):=by
 intro a0 k
 obtain ⟨ih0,ih1⟩:=spec_DrawOldTurn.mono_l k
 unfold spec_DrawOldTurn.f
 repeat' first
   | (with_reducible exact ih0 _ _ _ _)
   | (with_reducible exact ih1 _ _ _ _ _ _)
   | (with_reducible exact spec_l6Rd_pick.mono _ _ _ _)
   | (with_reducible exact spec_l91Old.mono _ _ _ _)
   | (with_reducible exact LeO.refl _)
   | (with_reducible exact LeO.none _)
   | (with_reducible refine LeO.ite ?_ ?_)
   | (with_reducible refine LeO.bind ?_ (fun _=>?_))
   | exact ih0 _ _ _ _
   | exact ih1 _ _ _ _ _ _
   | exact spec_l6Rd_pick.mono _ _ _ _
   | exact spec_l91Old.mono _ _ _ _
   | exact LeO.none _
   | refine LeO.ite ?_ ?_
   | refine LeO.bind ?_ (fun _=>?_)
set_option maxHeartbeats 8000000 in
set_option maxRecDepth 100000 in
theorem spec_DrawOldTurn.calls (k : Nat) (A0 : Option Addr) (c0 : Nat) (l0 : List Int) (r1 : List (S26)) (r2 : Bool) (w : World) (hr0 : Kd.C (Kd.int .u8) w A0 l0.length l0) (hc0 : l0.length ≤ c0) (h : spec_DrawOldTurn.f k l0=some (r1,r2)) :
  Calls Try.prog 36 #[.slice A0 l0.length c0] w fun e w'=>∃ v0_ : Value,e = .returned (.tuple #[v0_,.bool r2])∧Kd.S k26 26 w' w.heap.size (fun _=>True) v0_ r1∧Below w.heap.size w w':=by
 have HR0:=Aside0.mk hr0
 have HC0:=Aside0.mk hc0
 clear hr0 hc0
 have HB:=Aside0.mk (Below.refl w.heap.size w)
 have H : ((spec_l6Open.f l0).bind fun bt266=>((some (([] : List (S26)) : List (S26))).bind fun y269=>((spec_l6Rd_pick.f k bt266.1 bt266.2 5).bind fun bt272=>((spec_l6Rd_pick.f k bt266.1 bt272.2 20).bind fun bt274=>(if bt274.1=0 then ((some (([0,6,7] : List Int) : List Int)).bind fun y276=>((spec_l6Rd_pick.f k bt266.1 bt274.2 3).bind fun bt279=>(if 0 ≤ bt279.1 then (if bt279.1 < (y276.length : Int) then (spec_DrawOldTurn.j0 k y269 (rd y276 bt279.1) bt266.1 bt279.2) else (none)) else (none)))) else (spec_DrawOldTurn.j0 k y269 (wrap64 (1 + bt272.1)) bt266.1 bt274.2))))))=some (r1,r2):=h
 clear h
 replace H:=Option.bind_eq_some_iff.mp H
 obtain ⟨⟨t266,t267⟩,A20,H⟩:=H
 replace H : ((some (([] : List (S26)) : List (S26))).bind fun y269=>((spec_l6Rd_pick.f k t266 t267 5).bind fun bt272=>((spec_l6Rd_pick.f k t266 bt272.2 20).bind fun bt274=>(if bt274.1=0 then ((some (([0,6,7] : List Int) : List Int)).bind fun y276=>((spec_l6Rd_pick.f k t266 bt274.2 3).bind fun bt279=>(if 0 ≤ bt279.1 then (if bt279.1 < (y276.length : Int) then (spec_DrawOldTurn.j0 k y269 (rd y276 bt279.1) t266 bt279.2) else (none)) else (none)))) else (spec_DrawOldTurn.j0 k y269 (wrap64 (1 + bt272.1)) t266 bt274.2)))))=some (r1,r2):=H
 have A2:=Aside0.mk A20
 clear A20
 obtain ⟨y269,hy269⟩ : ∃ y_ : List (S26),y_=(([] : List (S26))):=⟨_,rfl⟩
 replace H : ((spec_l6Rd_pick.f k t266 t267 5).bind fun bt272=>((spec_l6Rd_pick.f k t266 bt272.2 20).bind fun bt274=>(if bt274.1=0 then ((some (([0,6,7] : List Int) : List Int)).bind fun y276=>((spec_l6Rd_pick.f k t266 bt274.2 3).bind fun bt279=>(if 0 ≤ bt279.1 then (if bt279.1 < (y276.length : Int) then (spec_DrawOldTurn.j0 k y269 (rd y276 bt279.1) t266 bt279.2) else (none)) else (none)))) else (spec_DrawOldTurn.j0 k y269 (wrap64 (1 + bt272.1)) t266 bt274.2))))=some (r1,r2):=by first|(rw [hy269];with_reducible exact H)|(have H2_:=(Option.bind_some _ _).symm.trans H;rw [hy269];with_reducible exact H2_)|(have H2_:=(Option.bind_some _ _).symm.trans H;with_reducible exact H2_)|with_reducible exact H|(rw [hy269];exact H)|exact H
 have Ny269:=Aside0.mk hy269
 clear hy269
 replace H:=Option.bind_eq_some_iff.mp H
 obtain ⟨⟨t272,t273⟩,A30,H⟩:=H
 replace H : ((spec_l6Rd_pick.f k t266 t273 20).bind fun bt274=>(if bt274.1=0 then ((some (([0,6,7] : List Int) : List Int)).bind fun y276=>((spec_l6Rd_pick.f k t266 bt274.2 3).bind fun bt279=>(if 0 ≤ bt279.1 then (if bt279.1 < (y276.length : Int) then (spec_DrawOldTurn.j0 k y269 (rd y276 bt279.1) t266 bt279.2) else (none)) else (none)))) else (spec_DrawOldTurn.j0 k y269 (wrap64 (1 + t272)) t266 bt274.2)))=some (r1,r2):=H
 have A3:=Aside0.mk A30
 clear A30
 replace H:=Option.bind_eq_some_iff.mp H
 obtain ⟨⟨t274,t275⟩,A40,H⟩:=H
 replace H : (if t274=0 then ((some (([0,6,7] : List Int) : List Int)).bind fun y276=>((spec_l6Rd_pick.f k t266 t275 3).bind fun bt279=>(if 0 ≤ bt279.1 then (if bt279.1 < (y276.length : Int) then (spec_DrawOldTurn.j0 k y269 (rd y276 bt279.1) t266 bt279.2) else (none)) else (none)))) else (spec_DrawOldTurn.j0 k y269 (wrap64 (1 + t272)) t266 t275))=some (r1,r2):=H
 have A4:=Aside0.mk A40
 clear A40
 have HC5:=Aside0.mk H
 clear H
 go_enter Try.func36,Try.ntmps36
 go_upto_if 17 with (first|((with_reducible refine gate_callee (f:=47) rfl ?_);refine goesL_ (some 10) rfl rfl Try.func47 (by kernel_rfl) rfl #[.slice A0 l0.length c0] rfl (by (try simp only [List.map_toArray,List.map_cons,List.map_nil]);first|done|rfl|(simp only [List.length_drop,List.length_take];rfl)) ?_;(with_reducible refine (spec_l6Open.calls _ _ l0 t266 t267 w _ ?side1 ?side2 ?side3 A2.out).mono ?_);(case side1=>repeat (first|(with_reducible first|exact HB.out|apply below_alloc|apply pw_below_drewN|apply below_drew1)|exact HB.out));(case side2=>exact HR0.out);(case side3=>exact HC0.out);rintro e w6 ⟨g268,rfl,hi,hb,hb2⟩;refine ⟨_,rfl,?_⟩;have n0_:=Aside0.mk (hb);have n1_:=Aside0.mk (hi);clear HB;have HB:=n0_;have HI268:=n1_;clear n0_ n1_;(try clear hb);(try clear hb2);(try clear hk);(try clear hi))|((with_reducible refine gate_dst (N:=11) rfl ?_);refine Kd.S_lit k26 _ 26 ?hg (N:=11) ?hd (xs:=([] : List (S26))) (inner:=[]) (ok:=fun _=>True) (okp:=fun _=>True) ?hr ?hp (fun _ hk=>hk) trivial (Below.refl _ _) (Nat.le_refl _) (by simp) ?_;(case hd=>rfl);(case hg=>rfl);(case hr=>first|(go_simp;done)|(go_simp;rfl));(case hp=>exact (Reps.none _ _));intro v270 w7 ho8 hb hg_ hnew_;clear hg_ hnew_;(first|rw [← Ny269.out] at ho8|(simp only [Int.reduceToNat] at ho8;rw [← Ny269.out] at ho8));have n0_:=Aside0.mk (Kd.S_lower ho8 (below_size (by repeat (first|(with_reducible first|exact HB.out|apply below_alloc|apply pw_below_drewN|apply below_drew1|refine below_set ?_ (IsS87.ge HI268.out))|exact HB.out))));have n1_:=Aside0.mk (IsS87.below (by repeat (first|(with_reducible first|exact HI268.out|apply IsS87.alloc|apply IsS87.drewN|apply IsS87.drew|apply IsS87.set_1)|exact HI268.out)) hb);have n2_:=Aside0.mk (below_step (by repeat (first|(with_reducible first|exact HB.out|apply below_alloc|apply pw_below_drewN|apply below_drew1|refine below_set ?_ (IsS87.ge HI268.out))|exact HB.out)) hb);clear HI268;clear HB;have HO271:=n0_;have HI268:=n1_;have HB:=n2_;clear n0_ n1_ n2_;clear hb ho8)|((with_reducible refine gate_callee (f:=49) rfl ?_);refine goesL_ (some 13) rfl rfl Try.func49 (by kernel_rfl) rfl #[.pointer (some ⟨g268,0,none⟩),.int .i64 5] rfl (by (try simp only [List.map_toArray,List.map_cons,List.map_nil]);first|done|rfl|(simp only [List.length_drop,List.length_take];rfl)) ?_;(with_reducible refine (spec_l6Rd_pick.calls k g268 t266 t267 5 t272 t273 w _ ?side1 ?side2 A3.out).mono ?_);(case side1=>repeat (first|(with_reducible first|exact HI268.out|apply IsS87.alloc|apply IsS87.drewN|apply IsS87.drew|apply IsS87.set_1)|exact HI268.out));(case side2=>repeat (first|(with_reducible first|exact HB.out|apply below_alloc|apply pw_below_drewN|apply below_drew1|refine below_set ?_ (IsS87.ge HI268.out))|exact HB.out));rintro e w9 ⟨rfl,hi,hb,hk⟩;refine ⟨_,rfl,?_⟩;have n0_:=Aside0.mk (Kd.S_mono (Kd.S_keep (IsS87.apartS (show IsS87 w _ g268 t266 t267 from by repeat (first|(with_reducible first|exact HI268.out|apply IsS87.alloc|apply IsS87.drewN|apply IsS87.drew|apply IsS87.set_1)|exact HI268.out)) (by (with_reducible repeat (first|apply Kd.S_alloc|apply Kd.S_drewN|apply Kd.S_drew));exact HO271.out) (by decide)) hk (fun _ h=>h.2)) (fun _ h=>h.1));have n1_:=Aside0.mk (hb);have n2_:=Aside0.mk (hi);clear HO271;clear HB;clear HI268;have HO271:=n0_;have HB:=n1_;have HI268:=n2_;clear n0_ n1_ n2_;(try clear hb);(try clear hb2);(try clear hk);(try clear hi))|((with_reducible refine gate_callee (f:=49) rfl ?_);refine goesL_ (some 16) rfl rfl Try.func49 (by kernel_rfl) rfl #[.pointer (some ⟨g268,0,none⟩),.int .i64 20] rfl (by (try simp only [List.map_toArray,List.map_cons,List.map_nil]);first|done|rfl|(simp only [List.length_drop,List.length_take];rfl)) ?_;(with_reducible refine (spec_l6Rd_pick.calls k g268 t266 t273 20 t274 t275 w _ ?side1 ?side2 A4.out).mono ?_);(case side1=>repeat (first|(with_reducible first|exact HI268.out|apply IsS87.alloc|apply IsS87.drewN|apply IsS87.drew|apply IsS87.set_1)|exact HI268.out));(case side2=>repeat (first|(with_reducible first|exact HB.out|apply below_alloc|apply pw_below_drewN|apply below_drew1|refine below_set ?_ (IsS87.ge HI268.out))|exact HB.out));rintro e w10 ⟨rfl,hi,hb,hk⟩;refine ⟨_,rfl,?_⟩;have n0_:=Aside0.mk (Kd.S_mono (Kd.S_keep (IsS87.apartS (show IsS87 w _ g268 t266 t273 from by repeat (first|(with_reducible first|exact HI268.out|apply IsS87.alloc|apply IsS87.drewN|apply IsS87.drew|apply IsS87.set_1)|exact HI268.out)) (by (with_reducible repeat (first|apply Kd.S_alloc|apply Kd.S_drewN|apply Kd.S_drew));exact HO271.out) (by decide)) hk (fun _ h=>h.2)) (fun _ h=>h.1));have n1_:=Aside0.mk (hb);have n2_:=Aside0.mk (hi);clear HO271;clear HB;clear HI268;have HO271:=n0_;have HB:=n1_;have HI268:=n2_;clear n0_ n1_ n2_;(try clear hb);(try clear hb2);(try clear hk);(try clear hi)))
 (try simp only [Act.put,List.setIfInBounds_toArray,List.set_cons_zero,List.set_cons_succ])
 go_cut [6] (fun v6 wc=>∃ (kq : Nat) (x6_4 : Int) (x269001_4 : Int),v6 = .int .i64 x6_4∧Aside0 (spec_DrawOldTurn.j0 kq y269 x6_4 t266 x269001_4=some (r1,r2))∧Aside0 (kq ≤ k)∧Aside0 (Kd.S k26 26 wc w.heap.size (fun _=>True) v270 y269)∧Aside0 (IsS87 w wc g268 t266 x269001_4)∧Aside0 (Below w.heap.size w wc))
 case first =>
  have H:=HC5.out
  clear HC5
  by_cases c11 : t274=0
  ·rw [if_pos c11] at H
   have c11b0 : (t274 == 0)=true:=beq_iff_eq.mpr c11
   have c11b1 : (t274 != 0)=false:=bne_eq_false_iff_eq.mpr c11
   clear c11
   (first|rw [c11b0]|(simp only [i64_w,i32_w];rw [c11b0])|skip)
   obtain ⟨y276,hy276⟩ : ∃ y_ : List Int,y_=(([0,6,7] : List Int)):=⟨_,rfl⟩
   replace H : ((spec_l6Rd_pick.f k t266 t275 3).bind fun bt279=>(if 0 ≤ bt279.1 then (if bt279.1 < (y276.length : Int) then (spec_DrawOldTurn.j0 k y269 (rd y276 bt279.1) t266 bt279.2) else (none)) else (none)))=some (r1,r2):=by first|(rw [hy276];with_reducible exact H)|(have H2_:=(Option.bind_some _ _).symm.trans H;rw [hy276];with_reducible exact H2_)|(have H2_:=(Option.bind_some _ _).symm.trans H;with_reducible exact H2_)|with_reducible exact H|(rw [hy276];exact H)|exact H
   have Ny276:=Aside0.mk hy276
   clear hy276
   replace H:=Option.bind_eq_some_iff.mp H
   obtain ⟨⟨t279,t280⟩,A120,H⟩:=H
   replace H : (if 0 ≤ t279 then (if t279 < (y276.length : Int) then (spec_DrawOldTurn.j0 k y269 (rd y276 t279) t266 t280) else (none)) else (none))=some (r1,r2):=H
   have A12:=Aside0.mk A120
   clear A120
   by_cases c13 : 0 ≤ t279
   ·rw [if_pos c13] at H
    have c13b0 : decide (0 ≤ t279)=true:=decide_eq_true c13
    clear c13
    by_cases c14 : t279 < (y276.length : Int)
    ·rw [if_pos c14] at H
     have c14b0 : decide (t279 < (y276.length : Int))=true:=decide_eq_true c14
     clear c14
     have H':=Aside0.mk H
     clear H
     go_wp2_with (first|((with_reducible refine gate_dst (N:=18) rfl ?_);refine Kd.R_lit (Kd.int .i64) _ 3 ?hg (N:=18) ?hd (xs:=([0,6,7] : List Int)) (inner:=[.int .i64 0,.int .i64 6,.int .i64 7]) (ok:=fun _=>True) (okp:=fun _=>True) ?hr ?hp (fun _ hk=>hk) trivial (Below.refl _ _) (Nat.le_refl _) (by simp) ?_;(case hd=>rfl);(case hg=>rfl);(case hr=>first|(go_simp;done)|(go_simp;rfl));(case hp=>exact (Reps.one (show Kd.M (Kd.int .i64) _ _ _ 0 [.int .i64 0] from rfl) (Reps.one (show Kd.M (Kd.int .i64) _ _ _ 6 [.int .i64 6] from rfl) (Reps.one (show Kd.M (Kd.int .i64) _ _ _ 7 [.int .i64 7] from rfl) (Reps.none _ _)))));intro v277 w15 ho16 hb hg_ hnew_;clear hg_ hnew_;(first|rw [← Ny276.out] at ho16|(simp only [Int.reduceToNat] at ho16;rw [← Ny276.out] at ho16));have n0_:=Aside0.mk (Kd.S_elder' (by (with_reducible repeat (first|apply Kd.S_alloc|apply Kd.S_drewN|apply Kd.S_drew));exact HO271.out) (Kd.R_base ho16) hb);have n1_:=Aside0.mk (Kd.R_lower ho16 (below_size (by repeat (first|(with_reducible first|exact HB.out|apply below_alloc|apply pw_below_drewN|apply below_drew1|refine below_set ?_ (IsS87.ge HI268.out))|exact HB.out))));have n2_:=Aside0.mk (IsS87.below (by repeat (first|(with_reducible first|exact HI268.out|apply IsS87.alloc|apply IsS87.drewN|apply IsS87.drew|apply IsS87.set_1)|exact HI268.out)) hb);have n3_:=Aside0.mk (below_step (by repeat (first|(with_reducible first|exact HB.out|apply below_alloc|apply pw_below_drewN|apply below_drew1|refine below_set ?_ (IsS87.ge HI268.out))|exact HB.out)) hb);clear HO271;clear HI268;clear HB;have HO271:=n0_;have HO278:=n1_;have HI268:=n2_;have HB:=n3_;clear n0_ n1_ n2_ n3_;clear hb ho16)|((with_reducible refine gate_callee (f:=49) rfl ?_);refine goesL_ (some 20) rfl rfl Try.func49 (by kernel_rfl) rfl #[.pointer (some ⟨g268,0,none⟩),.int .i64 3] rfl (by (try simp only [List.map_toArray,List.map_cons,List.map_nil]);first|done|rfl|(simp only [List.length_drop,List.length_take];rfl)) ?_;(with_reducible refine (spec_l6Rd_pick.calls k g268 t266 t275 3 t279 t280 w _ ?side1 ?side2 A12.out).mono ?_);(case side1=>repeat (first|(with_reducible first|exact HI268.out|apply IsS87.alloc|apply IsS87.drewN|apply IsS87.drew|apply IsS87.set_1)|exact HI268.out));(case side2=>repeat (first|(with_reducible first|exact HB.out|apply below_alloc|apply pw_below_drewN|apply below_drew1|refine below_set ?_ (IsS87.ge HI268.out))|exact HB.out));rintro e w17 ⟨rfl,hi,hb,hk⟩;refine ⟨_,rfl,?_⟩;have n0_:=Aside0.mk (Kd.S_mono (Kd.S_keep (IsS87.apartS (show IsS87 w _ g268 t266 t275 from by repeat (first|(with_reducible first|exact HI268.out|apply IsS87.alloc|apply IsS87.drewN|apply IsS87.drew|apply IsS87.set_1)|exact HI268.out)) (by (with_reducible repeat (first|apply Kd.S_alloc|apply Kd.S_drewN|apply Kd.S_drew));exact HO271.out) (by decide)) hk (fun _ h=>h.2)) (fun _ h=>h.1));have n1_:=Aside0.mk (Kd.R_mono (Kd.R_keep (IsS87.apart (show IsS87 w _ g268 t266 t275 from by repeat (first|(with_reducible first|exact HI268.out|apply IsS87.alloc|apply IsS87.drewN|apply IsS87.drew|apply IsS87.set_1)|exact HI268.out)) (by (with_reducible repeat (first|apply Kd.R_alloc|apply Kd.R_drewN|apply Kd.R_drew));exact HO278.out) (by decide)) hk (fun _ h=>h.2)) (fun _ h=>h.1));have n2_:=Aside0.mk (hb);have n3_:=Aside0.mk (hi);clear HO271;clear HO278;clear HB;clear HI268;have HO271:=n0_;have HO278:=n1_;have HB:=n2_;have HI268:=n3_;clear n0_ n1_ n2_ n3_;(try clear hb);(try clear hb2);(try clear hk);(try clear hi);obtain ⟨Ao18,co18,eo18⟩:=Kd.R_slice HO278.out;subst eo18;have p281 : 0 ≤ (t279 : Int):=of_decide_eq_true (by first|(with_reducible assumption)|assumption);have q281 : t279 < (y276.length : Int):=of_decide_eq_true (by first|(with_reducible assumption)|assumption);obtain ⟨ad281,e281,hx281_0⟩:=Kd.at_int (Kd.R_reads' HO278.out).2.2 t279 p281 q281;cases e281;replace p281:=eq_true p281;replace q281:=eq_true q281))
     go_meet
     case rel=>exact ⟨_,(rd y276 t279),(t280),(by first|rfl|(simp;done)|(simp [*];done)),H',⟨by first|omega|exact Nat.le_refl _⟩,⟨by (with_reducible repeat (first|apply Kd.S_alloc|apply Kd.S_drewN|apply Kd.S_drew));exact Kd.S_mono HO271.out (fun _ hk=>trivial)⟩,⟨by repeat (first|(with_reducible first|exact HI268.out|apply IsS87.alloc|apply IsS87.drewN|apply IsS87.drew|apply IsS87.set_1)|exact HI268.out)⟩,⟨by repeat (first|(with_reducible first|exact HB.out|apply below_alloc|apply pw_below_drewN|apply below_drew1|refine below_set ?_ (IsS87.ge HI268.out))|exact HB.out)⟩⟩
    ·rw [if_neg c14] at H
     exact absurd H (by simp)
   ·rw [if_neg c13] at H
    exact absurd H (by simp)
  ·rw [if_neg c11] at H
   have c11b0 : (t274 == 0)=false:=beq_eq_false_iff_ne.mpr c11
   have c11b1 : (t274 != 0)=true:=bne_iff_ne.mpr c11
   (first|rw [c11b0]|(simp only [i64_w,i32_w];rw [c11b0])|skip)
   have H':=Aside0.mk H
   clear H
   go_wp2
   go_meet
   case rel=>exact ⟨_,(wrap64 (1 + t272)),(t275),(by first|rfl|(simp;done)|(simp [*];done)),H',⟨by first|omega|exact Nat.le_refl _⟩,⟨by (with_reducible repeat (first|apply Kd.S_alloc|apply Kd.S_drewN|apply Kd.S_drew));exact HO271.out⟩,⟨by repeat (first|(with_reducible first|exact HI268.out|apply IsS87.alloc|apply IsS87.drewN|apply IsS87.drew|apply IsS87.set_1)|exact HI268.out)⟩,⟨by repeat (first|(with_reducible first|exact HB.out|apply below_alloc|apply pw_below_drewN|apply below_drew1|refine below_set ?_ (IsS87.ge HI268.out))|exact HB.out)⟩⟩
 case rest =>
  clear HC5
  try clear c1
  try clear p2
  try clear q2
  try clear hx2
  try clear c3
  try clear c4
  try clear p6
  try clear c11
  try clear c11b0
  try clear c11b1
  try clear c13
  try clear c13b0
  try clear c14
  try clear c14b0
  try clear hx281_0
  try clear p281
  try clear q281
  obtain ⟨kq,x6_4,x269001_4,rfl,HA,HJ4,HO_5,HI268,HB⟩:=hcut
  cases kq with
  | zero=>exact absurd HA.out (by simp [spec_DrawOldTurn.j0])
  | succ kj4 =>
   have H:=HA.out
   clear HA
   simp only [spec_DrawOldTurn.j0] at H
   replace H:=Option.bind_eq_some_iff.mp H
   obtain ⟨⟨t282,t283⟩,A190,H⟩:=H
   replace H : (spec_DrawOldTurn.l0 kj4 y269 x6_4 t282 0 t266 t283)=some (r1,r2):=H
   have A19:=Aside0.mk A190
   clear A190
   have H':=Aside0.mk H
   clear H
   go_wp2_with (first|((with_reducible refine gate_callee (f:=49) rfl ?_);refine goesL_ (some 24) rfl rfl Try.func49 (by kernel_rfl) rfl #[.pointer (some ⟨g268,0,none⟩),.int .i64 30] rfl (by (try simp only [List.map_toArray,List.map_cons,List.map_nil]);first|done|rfl|(simp only [List.length_drop,List.length_take];rfl)) ?_;(with_reducible refine (spec_l6Rd_pick.calls kj4 g268 t266 x269001_4 30 t282 t283 w _ ?side1 ?side2 A19.out).mono ?_);(case side1=>repeat (first|(with_reducible first|exact HI268.out|apply IsS87.alloc|apply IsS87.drewN|apply IsS87.drew|apply IsS87.set_1)|exact HI268.out));(case side2=>repeat (first|(with_reducible first|exact HB.out|apply below_alloc|apply pw_below_drewN|apply below_drew1|refine below_set ?_ (IsS87.ge HI268.out))|exact HB.out));rintro e w20 ⟨rfl,hi,hb,hk⟩;refine ⟨_,rfl,?_⟩;have n0_:=Aside0.mk (Kd.S_mono (Kd.S_keep (IsS87.apartS (show IsS87 w _ g268 t266 x269001_4 from by repeat (first|(with_reducible first|exact HI268.out|apply IsS87.alloc|apply IsS87.drewN|apply IsS87.drew|apply IsS87.set_1)|exact HI268.out)) (by (with_reducible repeat (first|apply Kd.S_alloc|apply Kd.S_drewN|apply Kd.S_drew));exact HO_5.out) (by decide)) hk (fun _ h=>h.2)) (fun _ h=>h.1));have n1_:=Aside0.mk (hb);have n2_:=Aside0.mk (hi);clear HO_5;clear HB;clear HI268;have HO_5:=n0_;have HB:=n1_;have HI268:=n2_;clear n0_ n1_ n2_;(try clear hb);(try clear hb2);(try clear hk);(try clear hi)))
   go_loopg [5,7,8] kj4 (fun kq v5 v7 v8 w'=>∃ (x5_2 : List (S26)) (x7_2 : Int) (x8_2 : Int) (x269001_2 : Int),v7 = .int .i64 x7_2∧v8 = .int .i64 x8_2∧Aside0 (spec_DrawOldTurn.l0 kq x5_2 x6_4 x7_2 x8_2 t266 x269001_2=some (r1,r2))∧Aside0 (kq ≤ kj4)∧Aside0 (Kd.S k26 26 w' w.heap.size (fun _=>True) v5 x5_2)∧Aside0 (IsS87 w w' g268 t266 x269001_2)∧Aside0 (Below w.heap.size w w'))
   case atStart=>exact ⟨(y269),(t282),(0),(t283),(by first|rfl|(simp;done)|(simp [*];done)),(by first|rfl|(simp;done)|(simp [*];done)),H',⟨Nat.le_refl _⟩,⟨by (with_reducible repeat (first|apply Kd.S_alloc|apply Kd.S_drewN|apply Kd.S_drew));exact HO_5.out⟩,⟨by repeat (first|(with_reducible first|exact HI268.out|apply IsS87.alloc|apply IsS87.drewN|apply IsS87.drew|apply IsS87.set_1)|exact HI268.out)⟩,⟨by repeat (first|(with_reducible first|exact HB.out|apply below_alloc|apply pw_below_drewN|apply below_drew1|refine below_set ?_ (IsS87.ge HI268.out))|exact HB.out)⟩⟩
   case round =>
    clear H'
    try clear c1
    try clear p2
    try clear q2
    try clear hx2
    try clear c3
    try clear c4
    try clear p6
    try clear c11
    try clear c11b0
    try clear c11b1
    try clear c13
    try clear c13b0
    try clear c14
    try clear c14b0
    try clear hx281_0
    try clear p2
    try clear p281
    try clear p6
    try clear q2
    try clear q281
    obtain ⟨x5_2,x7_2,x8_2,x269001_2,rfl,rfl,HA,HK2,HO_5,HI268,HB⟩:=hrel
    cases gk with
    | zero=>exact absurd HA.out (by simp [spec_DrawOldTurn.l0])
    | succ k2 =>
     have H:=HA.out
     clear HA
     simp only [spec_DrawOldTurn.l0] at H
     by_cases c21 : x8_2 < x6_4
     ·rw [if_pos c21] at H
      have c21b0 : decide (x8_2 < x6_4)=true:=decide_eq_true c21
      clear c21
      replace H:=Option.bind_eq_some_iff.mp H
      obtain ⟨⟨t284,t285,t286,t287,t290,t293,t294,t295⟩,A220,H⟩:=H
      replace H : (if x5_2.length < 1759218604441 then ((spec_l6Rd_pick.f k2 t266 t295 3).bind fun bt299=>((spec_l6Rd_pick.f k2 t266 bt299.2 20).bind fun bt301=>(spec_DrawOldTurn.l0 k2 (x5_2 ++ [(⟨t284,t285,t286,t287,t290,t293,t294⟩ : S26)]) x6_4 (wrap64 ((wrap64 ((wrap64 (x7_2 + 1)) + bt299.1)) - (wrap64 (Int.tdiv bt301.1 19)))) (wrap64 (x8_2 + 1)) t266 bt301.2))) else (none))=some (r1,r2):=H
      have A22:=Aside0.mk A220
      clear A220
      by_cases c23 : x5_2.length < 1759218604441
      ·rw [if_pos c23] at H
       have LMc23:=Aside0.mk c23
       clear c23
       obtain ⟨y296,hy296⟩ : ∃ y_ : List (S26),y_=(x5_2 ++ [(⟨t284,t285,t286,t287,t290,t293,t294⟩ : S26)]):=⟨_,rfl⟩
       replace H : ((spec_l6Rd_pick.f k2 t266 t295 3).bind fun bt299=>((spec_l6Rd_pick.f k2 t266 bt299.2 20).bind fun bt301=>(spec_DrawOldTurn.l0 k2 y296 x6_4 (wrap64 ((wrap64 ((wrap64 (x7_2 + 1)) + bt299.1)) - (wrap64 (Int.tdiv bt301.1 19)))) (wrap64 (x8_2 + 1)) t266 bt301.2)))=some (r1,r2):=by first|(rw [hy296];with_reducible exact H)|(have H2_:=(Option.bind_some _ _).symm.trans H;rw [hy296];with_reducible exact H2_)|(have H2_:=(Option.bind_some _ _).symm.trans H;with_reducible exact H2_)|with_reducible exact H|(rw [hy296];exact H)|exact H
       have Ny296:=Aside0.mk hy296
       clear hy296
       replace H:=Option.bind_eq_some_iff.mp H
       obtain ⟨⟨t299,t300⟩,A240,H⟩:=H
       replace H : ((spec_l6Rd_pick.f k2 t266 t300 20).bind fun bt301=>(spec_DrawOldTurn.l0 k2 y296 x6_4 (wrap64 ((wrap64 ((wrap64 (x7_2 + 1)) + t299)) - (wrap64 (Int.tdiv bt301.1 19)))) (wrap64 (x8_2 + 1)) t266 bt301.2))=some (r1,r2):=H
       have A24:=Aside0.mk A240
       clear A240
       replace H:=Option.bind_eq_some_iff.mp H
       obtain ⟨⟨t301,t302⟩,A250,H⟩:=H
       replace H : (spec_DrawOldTurn.l0 k2 y296 x6_4 (wrap64 ((wrap64 ((wrap64 (x7_2 + 1)) + t299)) - (wrap64 (Int.tdiv t301 19)))) (wrap64 (x8_2 + 1)) t266 t302)=some (r1,r2):=H
       have A25:=Aside0.mk A250
       clear A250
       have H':=Aside0.mk H
       clear H
       go_wp2_with (first|((with_reducible refine gate_callee (f:=48) rfl ?_);refine goesL_ (some 33) rfl rfl Try.func48 (by kernel_rfl) rfl #[.pointer (some ⟨g268,0,none⟩),.int .i64 x7_2] rfl (by (try simp only [List.map_toArray,List.map_cons,List.map_nil]);first|done|rfl|(simp only [List.length_drop,List.length_take];rfl)) ?_;(with_reducible refine (spec_l91Old.calls k2 g268 t266 x269001_2 x7_2 t284 t285 t286 t287 t290 t293 t294 t295 w _ ?side1 ?side2 A22.out).mono ?_);(case side1=>repeat (first|(with_reducible first|exact HI268.out|apply IsS87.alloc|apply IsS87.drewN|apply IsS87.drew|apply IsS87.set_1)|exact HI268.out));(case side2=>repeat (first|(with_reducible first|exact HB.out|apply below_alloc|apply pw_below_drewN|apply below_drew1|refine below_set ?_ (IsS87.ge HI268.out))|exact HB.out));rintro e w26 ⟨v288,v291,rfl,ho0,ho1,hi,hb,hk⟩;refine ⟨_,rfl,?_⟩;have n0_:=Aside0.mk (Kd.S_mono (Kd.S_told (Kd.S_told (Kd.S_oldK (IsS87.apartS (show IsS87 w _ g268 t266 x269001_2 from by repeat (first|(with_reducible first|exact HI268.out|apply IsS87.alloc|apply IsS87.drewN|apply IsS87.drew|apply IsS87.set_1)|exact HI268.out)) (by (with_reducible repeat (first|apply Kd.S_alloc|apply Kd.S_drewN|apply Kd.S_drew));exact HO_5.out) (by decide)) hk) (Kd.R_base ho0)) (Kd.R_base ho1)) (fun _ h_=>h_.1));have n1_:=Aside0.mk (Kd.R_lower ho0 (below_size (by repeat (first|(with_reducible first|exact HB.out|apply below_alloc|apply pw_below_drewN|apply below_drew1|refine below_set ?_ (IsS87.ge HI268.out))|exact HB.out))));have n2_:=Aside0.mk (Kd.R_lower ho1 (below_size (by repeat (first|(with_reducible first|exact HB.out|apply below_alloc|apply pw_below_drewN|apply below_drew1|refine below_set ?_ (IsS87.ge HI268.out))|exact HB.out))));have n3_:=Aside0.mk (hb);have n4_:=Aside0.mk (hi);clear HO_5;clear HB;clear HI268;have HO_5:=n0_;have HO289:=n1_;have HO292:=n2_;have HB:=n3_;have HI268:=n4_;clear n0_ n1_ n2_ n3_ n4_;(try clear hb);(try clear hb2);(try clear hk);(try clear hi);(try clear ho0);(try clear ho1);obtain ⟨Ao28,co28,eo28⟩:=Kd.R_slice HO289.out;subst eo28;obtain ⟨Ao29,co29,eo29⟩:=Kd.R_slice HO292.out;subst eo29)|((with_reducible refine gate_builtin (b:=.append) (xs:=#[.tmp 30,.tmp 34]) rfl ?_);at_builtin;refine Kd.S_append k26 (w0:=w) w.heap.size rfl (.tmp 30) (.tmp 34) 42 26 (.agg #[(.int .i64 0),(.bool false),(.int .i64 0),(.slice none 0 0),(.slice none 0 0),(.bool false),(.bool false)]) 80 rfl Try.underlying42 info26 rfl (by decide) (by omega) u5 x5_2 (⟨t284,t285,t286,t287,t290,t293,t294⟩ : S26) [.int .i64 t284,.bool t285,.int .i64 t286,.slice Ao28 t287.length co28,.slice Ao29 t290.length co29,.bool t293,.bool t294] (fun _=>True) (fun k_=>some k_=(.slice Ao28 t287.length co28 : Value).ownBlock ∨ some k_=(.slice Ao29 t290.length co29 : Value).ownBlock) rfl rfl ?aP (fun k_ hk_=>hk_.elim (fun h_=>((Kd.R_mono (ok':=fun k_=>((fun _=>True)) k_∧some k_ ≠ (u5 : Value).ownBlock) (Kd.R_apart' (HO289.out) (Kd.S_typed HO_5.out) (by decide)) (fun k_ hk=>⟨trivial,hk.2⟩))).1 k_ h_.symm) (fun h_=>((Kd.R_mono (ok':=fun k_=>((fun _=>True)) k_∧some k_ ≠ (u5 : Value).ownBlock) (Kd.R_apart' (HO292.out) (Kd.S_typed HO_5.out) (by decide)) (fun k_ hk=>⟨trivial,hk.2⟩))).1 k_ h_.symm)) ?aF ?aO ?aB ?aS ?aL ?_;(case aP=>exact k26_mkM _ _ _ (⟨t284,t285,t286,t287,t290,t293,t294⟩ : S26) (Kd.R_mono (Kd.R_tight rfl (Kd.R_mono (ok':=fun k_=>((fun _=>True)) k_∧some k_ ≠ (u5 : Value).ownBlock) (Kd.R_apart' (HO289.out) (Kd.S_typed HO_5.out) (by decide)) (fun k_ hk=>⟨trivial,hk.2⟩))) (fun _ h_=>Or.inl h_)) (Kd.R_mono (Kd.R_tight rfl (Kd.R_mono (ok':=fun k_=>((fun _=>True)) k_∧some k_ ≠ (u5 : Value).ownBlock) (Kd.R_apart' (HO292.out) (Kd.S_typed HO_5.out) (by decide)) (fun k_ hk=>⟨trivial,hk.2⟩))) (fun _ h_=>Or.inr (h_))));(case aB=>exact (by repeat (first|(with_reducible first|exact HB.out|apply below_alloc|apply pw_below_drewN|apply below_drew1|refine below_set ?_ (IsS87.ge HI268.out))|exact HB.out)));(case aF=>exact (fun _ _=>trivial));(case aO=>exact (by (with_reducible repeat (first|apply Kd.S_alloc|apply Kd.S_drewN|apply Kd.S_drew));exact Kd.S_mono HO_5.out (fun k_ hk=>⟨trivial,fun e_=>e_.elim (fun h_=>hk.1.2 h_) (fun h_=>hk.2 h_)⟩)));(case aS=>exact (below_size (by repeat (first|(with_reducible first|exact HB.out|apply below_alloc|apply pw_below_drewN|apply below_drew1|refine below_set ?_ (IsS87.ge HI268.out))|exact HB.out))));(case aL=>have:=LMc23.out;omega);intro v297 w27 ho hb hg hat;rw [← Ny296.out] at ho;have n0_:=Aside0.mk (IsS87.grown (by repeat (first|(with_reducible first|exact HI268.out|apply IsS87.alloc|apply IsS87.drewN|apply IsS87.drew|apply IsS87.set_1)|exact HI268.out)) hg (IsS87.own_neS HI268.out HO_5.out (by decide)));have n1_:=Aside0.mk (hb);have n2_:=Aside0.mk (ho);clear HI268;clear HB;clear HO_5;clear HO289;clear HO292;have HI268:=n0_;have HB:=n1_;have HO298:=n2_;clear n0_ n1_ n2_;clear ho hb hg hat)|((with_reducible refine gate_callee (f:=49) rfl ?_);refine goesL_ (some 39) rfl rfl Try.func49 (by kernel_rfl) rfl #[.pointer (some ⟨g268,0,none⟩),.int .i64 3] rfl (by (try simp only [List.map_toArray,List.map_cons,List.map_nil]);first|done|rfl|(simp only [List.length_drop,List.length_take];rfl)) ?_;(with_reducible refine (spec_l6Rd_pick.calls k2 g268 t266 t295 3 t299 t300 w _ ?side1 ?side2 A24.out).mono ?_);(case side1=>repeat (first|(with_reducible first|exact HI268.out|apply IsS87.alloc|apply IsS87.drewN|apply IsS87.drew|apply IsS87.set_1)|exact HI268.out));(case side2=>repeat (first|(with_reducible first|exact HB.out|apply below_alloc|apply pw_below_drewN|apply below_drew1|refine below_set ?_ (IsS87.ge HI268.out))|exact HB.out));rintro e w30 ⟨rfl,hi,hb,hk⟩;refine ⟨_,rfl,?_⟩;have n0_:=Aside0.mk (Kd.S_mono (Kd.S_keep (IsS87.apartS (show IsS87 w _ g268 t266 t295 from by repeat (first|(with_reducible first|exact HI268.out|apply IsS87.alloc|apply IsS87.drewN|apply IsS87.drew|apply IsS87.set_1)|exact HI268.out)) (by (with_reducible repeat (first|apply Kd.S_alloc|apply Kd.S_drewN|apply Kd.S_drew));exact HO298.out) (by decide)) hk (fun _ h=>h.2)) (fun _ h=>h.1));have n1_:=Aside0.mk (hb);have n2_:=Aside0.mk (hi);clear HO298;clear HB;clear HI268;have HO298:=n0_;have HB:=n1_;have HI268:=n2_;clear n0_ n1_ n2_;(try clear hb);(try clear hb2);(try clear hk);(try clear hi))|((with_reducible refine gate_callee (f:=49) rfl ?_);refine goesL_ (some 42) rfl rfl Try.func49 (by kernel_rfl) rfl #[.pointer (some ⟨g268,0,none⟩),.int .i64 20] rfl (by (try simp only [List.map_toArray,List.map_cons,List.map_nil]);first|done|rfl|(simp only [List.length_drop,List.length_take];rfl)) ?_;(with_reducible refine (spec_l6Rd_pick.calls k2 g268 t266 t300 20 t301 t302 w _ ?side1 ?side2 A25.out).mono ?_);(case side1=>repeat (first|(with_reducible first|exact HI268.out|apply IsS87.alloc|apply IsS87.drewN|apply IsS87.drew|apply IsS87.set_1)|exact HI268.out));(case side2=>repeat (first|(with_reducible first|exact HB.out|apply below_alloc|apply pw_below_drewN|apply below_drew1|refine below_set ?_ (IsS87.ge HI268.out))|exact HB.out));rintro e w31 ⟨rfl,hi,hb,hk⟩;refine ⟨_,rfl,?_⟩;have n0_:=Aside0.mk (Kd.S_mono (Kd.S_keep (IsS87.apartS (show IsS87 w _ g268 t266 t300 from by repeat (first|(with_reducible first|exact HI268.out|apply IsS87.alloc|apply IsS87.drewN|apply IsS87.drew|apply IsS87.set_1)|exact HI268.out)) (by (with_reducible repeat (first|apply Kd.S_alloc|apply Kd.S_drewN|apply Kd.S_drew));exact HO298.out) (by decide)) hk (fun _ h=>h.2)) (fun _ h=>h.1));have n1_:=Aside0.mk (hb);have n2_:=Aside0.mk (hi);clear HO298;clear HB;clear HI268;have HO298:=n0_;have HB:=n1_;have HI268:=n2_;clear n0_ n1_ n2_;(try clear hb);(try clear hb2);(try clear hk);(try clear hi)))
       go_roundg k2
       case measure=>have:=HJ4.out;have:=HK2.out;omega
       case rel=>exact ⟨(y296),(wrap64 ((wrap64 ((wrap64 (x7_2 + 1)) + t299)) - (wrap64 (Int.tdiv t301 19)))),(wrap64 (x8_2 + 1)),(t302),(by first|rfl|(simp;done)|(simp [*];done)),(by first|rfl|(simp;done)|(simp [*];done)),H',⟨by have:=HJ4.out;have:=HK2.out;omega⟩,⟨by (with_reducible repeat (first|apply Kd.S_alloc|apply Kd.S_drewN|apply Kd.S_drew));exact HO298.out⟩,⟨by repeat (first|(with_reducible first|exact HI268.out|apply IsS87.alloc|apply IsS87.drewN|apply IsS87.drew|apply IsS87.set_1)|exact HI268.out)⟩,⟨by repeat (first|(with_reducible first|exact HB.out|apply below_alloc|apply pw_below_drewN|apply below_drew1|refine below_set ?_ (IsS87.ge HI268.out))|exact HB.out)⟩⟩
      ·rw [if_neg c23] at H
       exact absurd H (by simp)
     ·rw [if_neg c21] at H
      have c21b0 : decide (x8_2 < x6_4)=false:=decide_eq_false c21
      clear c21
      replace H:=Option.bind_eq_some_iff.mp H
      obtain ⟨⟨t303,t304⟩,A320,H⟩:=H
      replace H : (some (x5_2,(t303 == 0)))=some (r1,r2):=H
      have A32:=Aside0.mk A320
      clear A320
      simp only [Option.some.injEq,Prod.mk.injEq] at H
      obtain ⟨rfl,rfl⟩:=H
      go_wp2_with (first|((with_reducible refine gate_callee (f:=49) rfl ?_);refine goesL_ (some 47) rfl rfl Try.func49 (by kernel_rfl) rfl #[.pointer (some ⟨g268,0,none⟩),.int .i64 2] rfl (by (try simp only [List.map_toArray,List.map_cons,List.map_nil]);first|done|rfl|(simp only [List.length_drop,List.length_take];rfl)) ?_;(with_reducible refine (spec_l6Rd_pick.calls k2 g268 t266 x269001_2 2 t303 t304 w _ ?side1 ?side2 A32.out).mono ?_);(case side1=>repeat (first|(with_reducible first|exact HI268.out|apply IsS87.alloc|apply IsS87.drewN|apply IsS87.drew|apply IsS87.set_1)|exact HI268.out));(case side2=>repeat (first|(with_reducible first|exact HB.out|apply below_alloc|apply pw_below_drewN|apply below_drew1|refine below_set ?_ (IsS87.ge HI268.out))|exact HB.out));rintro e w33 ⟨rfl,hi,hb,hk⟩;refine ⟨_,rfl,?_⟩;have n0_:=Aside0.mk (Kd.S_mono (Kd.S_keep (IsS87.apartS (show IsS87 w _ g268 t266 x269001_2 from by repeat (first|(with_reducible first|exact HI268.out|apply IsS87.alloc|apply IsS87.drewN|apply IsS87.drew|apply IsS87.set_1)|exact HI268.out)) (by (with_reducible repeat (first|apply Kd.S_alloc|apply Kd.S_drewN|apply Kd.S_drew));exact HO_5.out) (by decide)) hk (fun _ h=>h.2)) (fun _ h=>h.1));have n1_:=Aside0.mk (hb);have n2_:=Aside0.mk (hi);clear HO_5;clear HB;clear HI268;have HO_5:=n0_;have HB:=n1_;have HI268:=n2_;clear n0_ n1_ n2_;(try clear hb);(try clear hb2);(try clear hk);(try clear hi)))
      go_ret2
      exact ⟨_,by first|rfl|(simp [errW_none,errW_some] <;> rfl)|(simp [*,errW_none,errW_some] <;> rfl),by (with_reducible repeat (first|apply Kd.S_alloc|apply Kd.S_drewN|apply Kd.S_drew));exact HO_5.out,by repeat (first|(with_reducible first|exact HB.out|apply below_alloc|apply pw_below_drewN|apply below_drew1|refine below_set ?_ (IsS87.ge HI268.out))|exact HB.out)⟩

/-! ### laws_sameInts: function 21 -/
def laws_sameInts.l0 : Nat→List Int→List Int→Int→Option (Bool)
 | 0,_,_,_=>none
 | k + 1,x0,x1,x5=>if x5 < (x0.length : Int) then (if 0 ≤ x5 then (if x5 < (x1.length : Int) then (if (rd x0 x5)=(rd x1 x5) then (laws_sameInts.l0 k x0 x1 (wrap64 (x5 + 1))) else (some false)) else (none)) else (none)) else (some true)
def laws_sameInts.f (k : Nat) (l0 : List Int) (l1 : List Int) : Option (Bool):=if (l0.length : Int)=(l1.length : Int) then (laws_sameInts.l0 k l0 l1 0) else (some false)
theorem laws_sameInts.mono_l : ∀ k,(∀ y0 y1 y2,LeO (laws_sameInts.l0 k y0 y1 y2) (laws_sameInts.l0 (k + 1) y0 y1 y2))
 | 0=>fun _ _ _ r h=>by simp [laws_sameInts.l0] at h
 | k + 1=>by
  have ih0:=laws_sameInts.mono_l k
  ·intro y0 y1 y2
   unfold laws_sameInts.l0
   repeat' first
   | (with_reducible exact ih0 _ _ _)
   | (with_reducible exact LeO.refl _)
   | (with_reducible exact LeO.none _)
   | (with_reducible refine LeO.ite ?_ ?_)
   | (with_reducible refine LeO.bind ?_ (fun _=>?_))
   | exact ih0 _ _ _
   | exact LeO.none _
   | refine LeO.ite ?_ ?_
   | refine LeO.bind ?_ (fun _=>?_)
theorem laws_sameInts.mono : ∀ a0 a1 k,LeO (laws_sameInts.f k a0 a1) (laws_sameInts.f (k + 1) a0 a1):=by
 intro a0 a1 k
 have ih0:=laws_sameInts.mono_l k
 unfold laws_sameInts.f
 repeat' first
   | (with_reducible exact ih0 _ _ _)
   | (with_reducible exact LeO.refl _)
   | (with_reducible exact LeO.none _)
   | (with_reducible refine LeO.ite ?_ ?_)
   | (with_reducible refine LeO.bind ?_ (fun _=>?_))
   | exact ih0 _ _ _
   | exact LeO.none _
   | refine LeO.ite ?_ ?_
   | refine LeO.bind ?_ (fun _=>?_)
set_option maxHeartbeats 8000000 in
set_option maxRecDepth 100000 in
theorem laws_sameInts.calls (k : Nat) (A0 : Option Addr) (c0 : Nat) (l0 : List Int) (A1 : Option Addr) (c1 : Nat) (l1 : List Int) (r : Bool) (w : World) (hr0 : Kd.C (Kd.int .i64) w A0 l0.length l0) (hc0 : l0.length ≤ c0) (hr1 : Kd.C (Kd.int .i64) w A1 l1.length l1) (hc1 : l1.length ≤ c1) (h : laws_sameInts.f k l0 l1=some r) :
  Calls Try.prog 21 #[.slice A0 l0.length c0,.slice A1 l1.length c1] w fun e w'=>e = .returned (.bool r)∧Drawn0 w w':=by
 have HR0:=Aside0.mk hr0
 have HC0:=Aside0.mk hc0
 clear hr0 hc0
 have HR1:=Aside0.mk hr1
 have HC1:=Aside0.mk hc1
 clear hr1 hc1
 have H : (if (l0.length : Int)=(l1.length : Int) then (laws_sameInts.l0 k l0 l1 0) else (some false))=some r:=h
 clear h
 by_cases c3 : (l0.length : Int)=(l1.length : Int)
 ·rw [if_pos c3] at H
  have c3b0 : ((l0.length : Int) == (l1.length : Int))=true:=beq_iff_eq.mpr c3
  have c3b1 : ((l0.length : Int) != (l1.length : Int))=false:=bne_eq_false_iff_eq.mpr c3
  have c3b2 : (l0.length == l1.length)=true:=by first|simpa using c3|(simp at c3 ⊢;omega)
  clear c3
  have H':=Aside0.mk H
  clear H
  go_enter Try.func21,Try.ntmps21
  go_wp2
  repeat (go_quiet (fail);try go_wp2)
  go_loopg [5] k (fun kq v5 w'=>∃ (x5_1 : Int),v5 = .int .i64 x5_1∧Aside0 (laws_sameInts.l0 kq l0 l1 x5_1=some r)∧Aside0 (kq ≤ k)∧Drawn0 w w')
  case atStart=>exact ⟨(0),(by first|rfl|(simp;done)|(simp [*];done)),H',⟨Nat.le_refl _⟩,by repeat (first|exact Drawn0.refl _|apply Drawn0.step)⟩
  case round =>
   clear H'
   try clear c1
   try clear c2
   try clear p2
   try clear c3
   try clear c3b0
   try clear c3b1
   try clear c3b2
   obtain ⟨x5_1,rfl,HA,HK1,⟨m1,rfl⟩⟩:=hrel
   cases gk with
   | zero=>exact absurd HA.out (by simp [laws_sameInts.l0])
   | succ k1 =>
    have H:=HA.out
    clear HA
    simp only [laws_sameInts.l0] at H
    by_cases c4 : x5_1 < (l0.length : Int)
    ·rw [if_pos c4] at H
     have c4b0 : decide (x5_1 < (l0.length : Int))=true:=decide_eq_true c4
     clear c4
     by_cases c5 : 0 ≤ x5_1
     ·rw [if_pos c5] at H
      have c5b0 : decide (0 ≤ x5_1)=true:=decide_eq_true c5
      clear c5
      by_cases c6 : x5_1 < (l1.length : Int)
      ·rw [if_pos c6] at H
       have c6b0 : decide (x5_1 < (l1.length : Int))=true:=decide_eq_true c6
       clear c6
       by_cases c7 : (rd l0 x5_1)=(rd l1 x5_1)
       ·rw [if_pos c7] at H
        have c7b0 : ((rd l0 x5_1) == (rd l1 x5_1))=true:=beq_iff_eq.mpr c7
        have c7b1 : ((rd l0 x5_1) != (rd l1 x5_1))=false:=bne_eq_false_iff_eq.mpr c7
        clear c7
        have H':=Aside0.mk H
        clear H
        have p305 : 0 ≤ (x5_1 : Int):=of_decide_eq_true (by first|(with_reducible assumption)|assumption)
        have q305 : x5_1 < (l0.length : Int):=of_decide_eq_true (by first|(with_reducible assumption)|assumption)
        obtain ⟨ad305,e305,hx305_0⟩:=Kd.at_int HR0.out x5_1 p305 q305
        cases e305
        replace p305:=eq_true p305
        replace q305:=eq_true q305
        have p306 : 0 ≤ (x5_1 : Int):=of_decide_eq_true (by first|(with_reducible assumption)|assumption)
        have q306 : x5_1 < (l1.length : Int):=of_decide_eq_true (by first|(with_reducible assumption)|assumption)
        obtain ⟨ad306,e306,hx306_0⟩:=Kd.at_int HR1.out x5_1 p306 q306
        cases e306
        replace p306:=eq_true p306
        replace q306:=eq_true q306
        go_wp2
        repeat (go_quiet (fail);try go_wp2)
        go_roundg k1
        case measure=>have:=HK1.out;omega
        case rel=>exact ⟨(wrap64 (x5_1 + 1)),(by first|rfl|(simp;done)|(simp [*];done)),H',⟨by have:=HK1.out;omega⟩,by repeat (first|exact Drawn0.refl _|apply Drawn0.step)⟩
       ·rw [if_neg c7] at H
        have c7b0 : ((rd l0 x5_1) == (rd l1 x5_1))=false:=beq_eq_false_iff_ne.mpr c7
        have c7b1 : ((rd l0 x5_1) != (rd l1 x5_1))=true:=bne_iff_ne.mpr c7
        obtain rfl:=Option.some.inj H
        have p305 : 0 ≤ (x5_1 : Int):=of_decide_eq_true (by first|(with_reducible assumption)|assumption)
        have q305 : x5_1 < (l0.length : Int):=of_decide_eq_true (by first|(with_reducible assumption)|assumption)
        obtain ⟨ad305,e305,hx305_0⟩:=Kd.at_int HR0.out x5_1 p305 q305
        cases e305
        replace p305:=eq_true p305
        replace q305:=eq_true q305
        have p306 : 0 ≤ (x5_1 : Int):=of_decide_eq_true (by first|(with_reducible assumption)|assumption)
        have q306 : x5_1 < (l1.length : Int):=of_decide_eq_true (by first|(with_reducible assumption)|assumption)
        obtain ⟨ad306,e306,hx306_0⟩:=Kd.at_int HR1.out x5_1 p306 q306
        cases e306
        replace p306:=eq_true p306
        replace q306:=eq_true q306
        go_wp2
        repeat (go_quiet (fail);try go_wp2)
        go_ret
        exact ⟨by first|rfl|(simp;done)|(simp [*];done),by repeat (first|exact Drawn0.refl _|apply Drawn0.step)⟩
      ·rw [if_neg c6] at H
       exact absurd H (by simp)
     ·rw [if_neg c5] at H
      exact absurd H (by simp)
    ·rw [if_neg c4] at H
     have c4b0 : decide (x5_1 < (l0.length : Int))=false:=decide_eq_false c4
     clear c4
     obtain rfl:=Option.some.inj H
     go_wp2
     repeat (go_quiet (fail);try go_wp2)
     go_ret
     exact ⟨by first|rfl|(simp;done)|(simp [*];done),by repeat (first|exact Drawn0.refl _|apply Drawn0.step)⟩
 ·rw [if_neg c3] at H
  have c3b0 : ((l0.length : Int) == (l1.length : Int))=false:=beq_eq_false_iff_ne.mpr c3
  have c3b1 : ((l0.length : Int) != (l1.length : Int))=true:=bne_iff_ne.mpr c3
  have c3b2 : (l0.length == l1.length)=false:=by first|simpa using c3|(simp at c3 ⊢;omega)
  obtain rfl:=Option.some.inj H
  go_enter Try.func21,Try.ntmps21
  go_wp2
  repeat (go_quiet (fail);try go_wp2)
  go_ret
  exact ⟨by first|rfl|(simp;done)|(simp [*];done),by repeat (first|exact Drawn0.refl _|apply Drawn0.step)⟩

end Go.Proofs.Ytmpnedpokdaejaa.QFnTurnOrder
