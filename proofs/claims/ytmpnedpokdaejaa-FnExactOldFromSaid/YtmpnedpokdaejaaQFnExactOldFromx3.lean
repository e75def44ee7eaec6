-- Written by this session's program wip/ownprint.py.
import Derived.Test.YtmpnedpokdaejaaQFnExactOldFromx0
import Derived.Test.YtmpnedpokdaejaaQFnExactOldFromx1
import Derived.Test.YtmpnedpokdaejaaQFnExactOldFromx2
namespace Go.Proofs.Ytmpnedpokdaejaa.QFnExactOldFrom
open Go.RowKit Go.Proofs.YtmpnedpokdaejaaW.PrintWords Go.Proofs.YtmpnedpokdaejaaW.PrintLast Go.Proofs.YtmpnedpokdaejaaW.PrintMore
attribute [local go_sem] max2_int min2_int max_two min_two max_three min_three max_four min_four   -- for this text's walks alone
set_option linter.unusedVariables false
set_option linter.unusedSimpArgs false

/-! ### impl_Old_bytesOf: function 54 -/
def impl_Old_bytesOf.j0 : Nat → List Int → Int → Bool → Int → List Int → List Int → Bool → Bool → Option (List Int)
  | 0, _, _, _, _, _, _, _, _ => none
  | k + 1, x3, x154000, x154001, x154002, x154003, x154004, x154005, x154006 => (impl_oldPart.f x154005 x154003).bind fun t166 => (if x3.length + t166.length < 17592186044416 then ((some (x3 ++ t166 : List Int)).bind fun y169 => ((impl_oldPart.f (!x154006) x154004).bind fun t172 => (if y169.length + t172.length < 17592186044416 then ((some (y169 ++ t172 : List Int)).bind fun y175 => ((impl_intOf.f k x154000 3).bind fun t178 => ((impl_sum_over.f k 1 y175).bind fun t181 => ((impl_intOf.f k t181 2).bind fun t182 => ((slices_Concat_int_int.f (([t178, t182, y175] : List (List Int)))).bind fun t188 => (some t188)))))) else (none)))) else (none))
def impl_Old_bytesOf.f (k : Nat) (a0_0 : Int) (a0_1 : Bool) (a0_2 : Int) (l0_3 : List Int) (l0_4 : List Int) (a0_5 : Bool) (a0_6 : Bool) : Option (List Int) := if a0_1 = true then ((some (([1] : List Int) : List Int)).bind fun y157 => ((impl_intOf.f k a0_2 3).bind fun t160 => (if y157.length + t160.length < 17592186044416 then (impl_Old_bytesOf.j0 k (y157 ++ t160) a0_0 a0_1 a0_2 l0_3 l0_4 a0_5 a0_6) else (none)))) else (impl_Old_bytesOf.j0 k (([0] : List Int)) a0_0 a0_1 a0_2 l0_3 l0_4 a0_5 a0_6)
theorem impl_Old_bytesOf.mono_l : ∀ k, (∀ y0 y1 y2 y3 y4 y5 y6 y7, LeO (impl_Old_bytesOf.j0 k y0 y1 y2 y3 y4 y5 y6 y7) (impl_Old_bytesOf.j0 (k + 1) y0 y1 y2 y3 y4 y5 y6 y7))
  | 0 => fun _ _ _ _ _ _ _ _ r h => by simp [impl_Old_bytesOf.j0] at h
  | k + 1 => by
    have ih0 := impl_Old_bytesOf.mono_l k
    · intro y0 y1 y2 y3 y4 y5 y6 y7
      unfold impl_Old_bytesOf.j0
      repeat' first
      | (with_reducible exact ih0 _ _ _ _ _ _ _ _)
      | (with_reducible exact impl_intOf.mono _ _ _)
      | (with_reducible exact impl_sum_over.mono _ _ _)
      | (with_reducible exact LeO.refl _)
      | (with_reducible exact LeO.none _)
      | (with_reducible refine LeO.ite ?_ ?_)
      | (with_reducible refine LeO.bind ?_ (fun _ => ?_))
      | exact ih0 _ _ _ _ _ _ _ _
      | exact impl_intOf.mono _ _ _
      | exact impl_sum_over.mono _ _ _
      | exact LeO.none _
      | refine LeO.ite ?_ ?_
      | refine LeO.bind ?_ (fun _ => ?_)
theorem impl_Old_bytesOf.mono : ∀ a0 a1 a2 a3 a4 a5 a6 k, LeO (impl_Old_bytesOf.f k a0 a1 a2 a3 a4 a5 a6) (impl_Old_bytesOf.f (k + 1) a0 a1 a2 a3 a4 a5 a6) := by
  intro a0 a1 a2 a3 a4 a5 a6 k
  have ih0 := impl_Old_bytesOf.mono_l k
  unfold impl_Old_bytesOf.f
  repeat' first
      | (with_reducible exact ih0 _ _ _ _ _ _ _ _)
      | (with_reducible exact impl_intOf.mono _ _ _)
      | (with_reducible exact impl_sum_over.mono _ _ _)
      | (with_reducible exact LeO.refl _)
      | (with_reducible exact LeO.none _)
      | (with_reducible refine LeO.ite ?_ ?_)
      | (with_reducible refine LeO.bind ?_ (fun _ => ?_))
      | exact ih0 _ _ _ _ _ _ _ _
      | exact impl_intOf.mono _ _ _
      | exact impl_sum_over.mono _ _ _
      | exact LeO.none _
      | refine LeO.ite ?_ ?_
      | refine LeO.bind ?_ (fun _ => ?_)
set_option maxHeartbeats 8000000 in
set_option maxRecDepth 100000 in
theorem impl_Old_bytesOf.calls (k : Nat) (a0_0 : Int) (a0_1 : Bool) (a0_2 : Int) (A0_3 : Option Addr) (c0_3 : Nat) (l0_3 : List Int) (A0_4 : Option Addr) (c0_4 : Nat) (l0_4 : List Int) (a0_5 : Bool) (a0_6 : Bool) (r : List Int) (w : World) (hr0_3 : Kd.C (Kd.int .i64) w A0_3 l0_3.length l0_3) (hc0_3 : l0_3.length ≤ c0_3) (hr0_4 : Kd.C (Kd.int .i64) w A0_4 l0_4.length l0_4) (hc0_4 : l0_4.length ≤ c0_4) (h : impl_Old_bytesOf.f k a0_0 a0_1 a0_2 l0_3 l0_4 a0_5 a0_6 = some r) :
    Calls Try.prog 54 #[.agg #[.int .i64 a0_0, .bool a0_1, .int .i64 a0_2, .slice A0_3 l0_3.length c0_3, .slice A0_4 l0_4.length c0_4, .bool a0_5, .bool a0_6]] w fun e w' => ∃ v0_ : Value, e = .returned (v0_) ∧ Kd.R (Kd.int .i64) 3 w' w.heap.size (fun _ => True) v0_ r ∧ Below w.heap.size w w' := by
  have hu26 := Try.underlying26
  have HR0_3 := Aside0.mk hr0_3
  have HC0_3 := Aside0.mk hc0_3
  clear hr0_3 hc0_3
  have HR0_4 := Aside0.mk hr0_4
  have HC0_4 := Aside0.mk hc0_4
  clear hr0_4 hc0_4
  have HB := Aside0.mk (Below.refl w.heap.size w)
  have H : (if a0_1 = true then ((some (([1] : List Int) : List Int)).bind fun y157 => ((impl_intOf.f k a0_2 3).bind fun t160 => (if y157.length + t160.length < 17592186044416 then (impl_Old_bytesOf.j0 k (y157 ++ t160) a0_0 a0_1 a0_2 l0_3 l0_4 a0_5 a0_6) else (none)))) else (impl_Old_bytesOf.j0 k (([0] : List Int)) a0_0 a0_1 a0_2 l0_3 l0_4 a0_5 a0_6)) = some r := h
  clear h
  obtain ⟨y154, hy154⟩ : ∃ y_ : List Int, y_ = (([0] : List Int)) := ⟨_, rfl⟩
  replace H : (if a0_1 = true then ((some (([1] : List Int) : List Int)).bind fun y157 => ((impl_intOf.f k a0_2 3).bind fun t160 => (if y157.length + t160.length < 17592186044416 then (impl_Old_bytesOf.j0 k (y157 ++ t160) a0_0 a0_1 a0_2 l0_3 l0_4 a0_5 a0_6) else (none)))) else (impl_Old_bytesOf.j0 k y154 a0_0 a0_1 a0_2 l0_3 l0_4 a0_5 a0_6)) = some r := by first | (rw [hy154]; with_reducible exact H) | (have H2_ := (Option.bind_some _ _).symm.trans H; rw [hy154]; with_reducible exact H2_) | (have H2_ := (Option.bind_some _ _).symm.trans H; with_reducible exact H2_) | with_reducible exact H | (rw [hy154]; exact H) | exact H
  have Ny154 := Aside0.mk hy154
  clear hy154
  have HC2 := Aside0.mk H
  clear H
  go_enter Try.func54, Try.ntmps54
  go_upto_if 6 with (first | ((with_reducible refine gate_dst (N := 1) rfl ?_); refine box_event ?hg (N := 1) ?hd (cs := #[.int .i64 a0_0, .bool a0_1, .int .i64 a0_2, .slice A0_3 l0_3.length c0_3, .slice A0_4 l0_4.length c0_4, .bool a0_5, .bool a0_6]) (t := 26) ?hr ?_; (case hd => rfl); (case hg => rfl); (case hr => first | (go_simp; done) | (go_simp; rfl)); intro gb153 hg w3 hbox hb; have n0_ := Aside0.mk (below_step (by repeat (first | (with_reducible first | exact HB.out | apply below_alloc | apply pw_below_drewN | apply below_drew1) | exact HB.out)) hb); have n1_ := Aside0.mk (hbox); have n2_ := Aside0.mk ((by rw [hg]; exact (below_size (by repeat (first | (with_reducible first | exact HB.out | apply below_alloc | apply pw_below_drewN | apply below_drew1) | exact HB.out))) : w.heap.size ≤ gb153)); have n3_ := Aside0.mk ((by rw [hg]; exact (below_size (by repeat (first | (with_reducible first | exact HB.out | apply below_alloc | apply pw_below_drewN | apply below_drew1) | exact HB.out))) : w.heap.size ≤ gb153)); clear HB; have HB := n0_; have BK153 := n1_; have GW153 := n2_; have GE153 := n3_; clear n0_ n1_ n2_ n3_; clear hb hbox hg) | ((with_reducible refine gate_dst (N := 4) rfl ?_); refine Kd.R_lit (Kd.int .i64) _ 3 ?hg (N := 4) ?hd (xs := ([0] : List Int)) (inner := [.int .i64 0]) (ok := fun _ => True) (okp := fun _ => True) ?hr ?hp (fun _ hk => hk) trivial (Below.refl _ _) (Nat.le_refl _) (by simp) ?_; (case hd => rfl); (case hg => rfl); (case hr => first | (go_simp; done) | (go_simp; rfl)); (case hp => exact (Reps.one (show Kd.M (Kd.int .i64) _ _ _ 0 [.int .i64 0] from rfl) (Reps.none _ _))); intro v155 w4 ho5 hb hg_ hnew_; clear hg_ hnew_; (first | rw [← Ny154.out] at ho5 | (simp only [Int.reduceToNat] at ho5; rw [← Ny154.out] at ho5)); have n0_ := Aside0.mk (Kd.R_lower ho5 (below_size (by repeat (first | (with_reducible first | exact HB.out | apply below_alloc | apply pw_below_drewN | apply below_drew1 | refine below_set ?_ GE153.out) | exact HB.out)))); have n1_ := Aside0.mk (blk_below (g := gb153) (o := .cells #[.int .i64 a0_0, .bool a0_1, .int .i64 a0_2, .slice A0_3 l0_3.length c0_3, .slice A0_4 l0_4.length c0_4, .bool a0_5, .bool a0_6] 26 (0, 0)) (by (with_reducible repeat (first | refine blk_drewN ?_ _ | refine blk_drew ?_ | refine blk_alloc ?_ _)); exact BK153.out) hb); have n2_ := Aside0.mk (below_step (by repeat (first | (with_reducible first | exact HB.out | apply below_alloc | apply pw_below_drewN | apply below_drew1 | refine below_set ?_ GE153.out) | exact HB.out)) hb); clear BK153; clear HB; have HO156 := n0_; have BK153 := n1_; have HB := n2_; clear n0_ n1_ n2_; clear hb ho5; have hcz6_0 : w4.cell? ⟨gb153, 0, none⟩ = some (.int .i64 a0_0) := (blk_cell BK153.out 0).trans rfl; have hcz6_1 : w4.cell? ⟨gb153, 1, none⟩ = some (.bool a0_1) := (blk_cell BK153.out 1).trans rfl; have hcz6_2 : w4.cell? ⟨gb153, 2, none⟩ = some (.int .i64 a0_2) := (blk_cell BK153.out 2).trans rfl; have hcz6_3 : w4.cell? ⟨gb153, 3, none⟩ = some (.slice A0_3 l0_3.length c0_3) := (blk_cell BK153.out 3).trans rfl; have hcz6_4 : w4.cell? ⟨gb153, 4, none⟩ = some (.slice A0_4 l0_4.length c0_4) := (blk_cell BK153.out 4).trans rfl; have hcz6_5 : w4.cell? ⟨gb153, 5, none⟩ = some (.bool a0_5) := (blk_cell BK153.out 5).trans rfl; have hcz6_6 : w4.cell? ⟨gb153, 6, none⟩ = some (.bool a0_6) := (blk_cell BK153.out 6).trans rfl; have hfz6_0 := blk_frozen BK153.out 0; have hfz6_1 := blk_frozen BK153.out 1; have hfz6_2 := blk_frozen BK153.out 2; have hfz6_3 := blk_frozen BK153.out 3; have hfz6_4 := blk_frozen BK153.out 4; have hfz6_5 := blk_frozen BK153.out 5; have hfz6_6 := blk_frozen BK153.out 6))
  (try simp only [Act.put, List.setIfInBounds_toArray, List.set_cons_zero, List.set_cons_succ])
  go_cut [3] (fun v3 wc => ∃ (kq : Nat) (x3_1 : List Int), Aside0 (impl_Old_bytesOf.j0 kq x3_1 a0_0 a0_1 a0_2 l0_3 l0_4 a0_5 a0_6 = some r) ∧ Aside0 (kq ≤ k) ∧ Aside0 (Kd.R (Kd.int .i64) 3 wc w.heap.size (fun _ => True) v3 x3_1) ∧ Aside0 (wc.heap[gb153]? = some (.cells #[.int .i64 a0_0, .bool a0_1, .int .i64 a0_2, (.slice A0_3 l0_3.length c0_3), (.slice A0_4 l0_4.length c0_4), .bool a0_5, .bool a0_6] 26 (0, 0))) ∧ Aside0 (Below w.heap.size w wc))
  case first =>
    have H := HC2.out
    clear HC2
    by_cases c7 : a0_1 = true
    · subst c7
      have H1 : ((some (([1] : List Int) : List Int)).bind fun y157 => ((impl_intOf.f k a0_2 3).bind fun t160 => (if y157.length + t160.length < 17592186044416 then (impl_Old_bytesOf.j0 k (y157 ++ t160) a0_0 true a0_2 l0_3 l0_4 a0_5 a0_6) else (none)))) = some r := by rw [if_pos rfl] at H; exact H
      clear H
      have H := H1
      clear H1
      obtain ⟨y157, hy157⟩ : ∃ y_ : List Int, y_ = (([1] : List Int)) := ⟨_, rfl⟩
      replace H : ((impl_intOf.f k a0_2 3).bind fun t160 => (if y157.length + t160.length < 17592186044416 then (impl_Old_bytesOf.j0 k (y157 ++ t160) a0_0 true a0_2 l0_3 l0_4 a0_5 a0_6) else (none))) = some r := by first | (rw [hy157]; with_reducible exact H) | (have H2_ := (Option.bind_some _ _).symm.trans H; rw [hy157]; with_reducible exact H2_) | (have H2_ := (Option.bind_some _ _).symm.trans H; with_reducible exact H2_) | with_reducible exact H | (rw [hy157]; exact H) | exact H
      have Ny157 := Aside0.mk hy157
      clear hy157
      replace H := Option.bind_eq_some_iff.mp H
      obtain ⟨t160, A80, H⟩ := H
      replace H : (if y157.length + t160.length < 17592186044416 then (impl_Old_bytesOf.j0 k (y157 ++ t160) a0_0 true a0_2 l0_3 l0_4 a0_5 a0_6) else (none)) = some r := H
      have A8 := Aside0.mk A80
      clear A80
      by_cases c9 : y157.length + t160.length < 17592186044416
      · rw [if_pos c9] at H
        have LMc9 := Aside0.mk c9
        clear c9
        obtain ⟨y163, hy163⟩ : ∃ y_ : List Int, y_ = (y157 ++ t160) := ⟨_, rfl⟩
        replace H : (impl_Old_bytesOf.j0 k y163 a0_0 true a0_2 l0_3 l0_4 a0_5 a0_6) = some r := by first | (rw [hy163]; with_reducible exact H) | (have H2_ := (Option.bind_some _ _).symm.trans H; rw [hy163]; with_reducible exact H2_) | (have H2_ := (Option.bind_some _ _).symm.trans H; with_reducible exact H2_) | with_reducible exact H | (rw [hy163]; exact H) | exact H
        have Ny163 := Aside0.mk hy163
        clear hy163
        have H' := Aside0.mk H
        clear H
        go_wp2_with (first | ((with_reducible refine gate_dst (N := 7) rfl ?_); refine Kd.R_lit (Kd.int .i64) _ 3 ?hg (N := 7) ?hd (xs := ([1] : List Int)) (inner := [.int .i64 1]) (ok := fun _ => True) (okp := fun _ => True) ?hr ?hp (fun _ hk => hk) trivial (Below.refl _ _) (Nat.le_refl _) (by simp) ?_; (case hd => rfl); (case hg => rfl); (case hr => first | (go_simp; done) | (go_simp; rfl)); (case hp => exact (Reps.one (show Kd.M (Kd.int .i64) _ _ _ 1 [.int .i64 1] from rfl) (Reps.none _ _))); intro v158 w10 ho11 hb hg_ hnew_; clear hg_ hnew_; (first | rw [← Ny157.out] at ho11 | (simp only [Int.reduceToNat] at ho11; rw [← Ny157.out] at ho11)); have n0_ := Aside0.mk (Kd.R_elder' (by (with_reducible repeat (first | apply Kd.R_alloc | apply Kd.R_drewN | apply Kd.R_drew)); exact HO156.out) (Kd.R_base ho11) hb); have n1_ := Aside0.mk (Kd.R_lower (Kd.R_new' ho11 (Kd.R_lt (by (with_reducible repeat (first | apply Kd.R_alloc | apply Kd.R_drewN | apply Kd.R_drew)); exact HO156.out))) (below_size (by repeat (first | (with_reducible first | exact HB.out | apply below_alloc | apply pw_below_drewN | apply below_drew1 | refine below_set ?_ GE153.out) | exact HB.out)))); have n2_ := Aside0.mk (blk_below (g := gb153) (o := .cells #[.int .i64 a0_0, .bool true, .int .i64 a0_2, .slice A0_3 l0_3.length c0_3, .slice A0_4 l0_4.length c0_4, .bool a0_5, .bool a0_6] 26 (0, 0)) (by (with_reducible repeat (first | refine blk_drewN ?_ _ | refine blk_drew ?_ | refine blk_alloc ?_ _)); exact BK153.out) hb); have n3_ := Aside0.mk (below_step (by repeat (first | (with_reducible first | exact HB.out | apply below_alloc | apply pw_below_drewN | apply below_drew1 | refine below_set ?_ GE153.out) | exact HB.out)) hb); clear HO156; clear BK153; clear HB; have HO156 := n0_; have HO159 := n1_; have BK153 := n2_; have HB := n3_; clear n0_ n1_ n2_ n3_; clear hb ho11; have hcz12_0 : w10.cell? ⟨gb153, 0, none⟩ = some (.int .i64 a0_0) := (blk_cell BK153.out 0).trans rfl; have hcz12_1 : w10.cell? ⟨gb153, 1, none⟩ = some (.bool true) := (blk_cell BK153.out 1).trans rfl; have hcz12_2 : w10.cell? ⟨gb153, 2, none⟩ = some (.int .i64 a0_2) := (blk_cell BK153.out 2).trans rfl; have hcz12_3 : w10.cell? ⟨gb153, 3, none⟩ = some (.slice A0_3 l0_3.length c0_3) := (blk_cell BK153.out 3).trans rfl; have hcz12_4 : w10.cell? ⟨gb153, 4, none⟩ = some (.slice A0_4 l0_4.length c0_4) := (blk_cell BK153.out 4).trans rfl; have hcz12_5 : w10.cell? ⟨gb153, 5, none⟩ = some (.bool a0_5) := (blk_cell BK153.out 5).trans rfl; have hcz12_6 : w10.cell? ⟨gb153, 6, none⟩ = some (.bool a0_6) := (blk_cell BK153.out 6).trans rfl; have hfz12_0 := blk_frozen BK153.out 0; have hfz12_1 := blk_frozen BK153.out 1; have hfz12_2 := blk_frozen BK153.out 2; have hfz12_3 := blk_frozen BK153.out 3; have hfz12_4 := blk_frozen BK153.out 4; have hfz12_5 := blk_frozen BK153.out 5; have hfz12_6 := blk_frozen BK153.out 6) | ((with_reducible refine gate_callee (f := 76) rfl ?_); refine goesL_ (some 10) rfl rfl Try.func76 (by kernel_rfl) rfl #[.int .i64 a0_2, .int .i64 3] rfl (by (try simp only [List.map_toArray, List.map_cons, List.map_nil]); first | done | rfl | (simp only [List.length_drop, List.length_take]; rfl)) ?_; (with_reducible refine (impl_intOf.calls k a0_2 3 t160 _ A8.out).mono ?_); rintro e w13 ⟨v161, rfl, ho0, hb⟩; refine ⟨_, rfl, ?_⟩; have n0_ := Aside0.mk (Kd.R_elder' (by (with_reducible repeat (first | apply Kd.R_alloc | apply Kd.R_drewN | apply Kd.R_drew)); exact HO156.out) (Kd.R_base ho0) hb); have n1_ := Aside0.mk (Kd.R_elder' (by (with_reducible repeat (first | apply Kd.R_alloc | apply Kd.R_drewN | apply Kd.R_drew)); exact HO159.out) (Kd.R_base ho0) hb); have n2_ := Aside0.mk (Kd.R_lower (Kd.R_new' (Kd.R_new' ho0 (Kd.R_lt (by (with_reducible repeat (first | apply Kd.R_alloc | apply Kd.R_drewN | apply Kd.R_drew)); exact HO156.out))) (Kd.R_lt (by (with_reducible repeat (first | apply Kd.R_alloc | apply Kd.R_drewN | apply Kd.R_drew)); exact HO159.out))) (below_size (by repeat (first | (with_reducible first | exact HB.out | apply below_alloc | apply pw_below_drewN | apply below_drew1 | refine below_set ?_ GE153.out) | exact HB.out)))); have n3_ := Aside0.mk (blk_below (g := gb153) (o := .cells #[.int .i64 a0_0, .bool true, .int .i64 a0_2, .slice A0_3 l0_3.length c0_3, .slice A0_4 l0_4.length c0_4, .bool a0_5, .bool a0_6] 26 (0, 0)) (by (with_reducible repeat (first | refine blk_drewN ?_ _ | refine blk_drew ?_ | refine blk_alloc ?_ _)); exact BK153.out) hb); have n4_ := Aside0.mk (below_step (by repeat (first | (with_reducible first | exact HB.out | apply below_alloc | apply pw_below_drewN | apply below_drew1 | refine below_set ?_ GE153.out) | exact HB.out)) hb); clear HO156; clear HO159; clear BK153; clear HB; have HO156 := n0_; have HO159 := n1_; have HO162 := n2_; have BK153 := n3_; have HB := n4_; clear n0_ n1_ n2_ n3_ n4_; (try clear hb); (try clear hb2); (try clear hk); (try clear hi); (try clear ho0); obtain ⟨Ao15, co15, eo15⟩ := Kd.R_slice HO162.out; subst eo15) | ((with_reducible refine gate_builtin (b := .append) (xs := #[.tmp 7, .tmp 10]) rfl ?_); at_builtin; refine Kd.R_append_rows (Kd.int .i64) (w0 := w) w.heap.size rfl (.tmp 7) (.tmp 10) 23 3 (.int .i64 0) 8 rfl Try.underlying23 info3 rfl (by decide) (by omega) v158 y157 t160 _ _ _ (fun k_ => some k_ ≠ (v155 : Value).ownBlock ∧ some k_ ≠ (.slice Ao15 t160.length co15 : Value).ownBlock) (fun _ => False) rfl rfl ?aO ?aR (fun _ _ h => h) (fun _ h => h.elim) ?aF ?aB ?aS ?aL ?_; (case aR => repeat (first | exact (Kd.R_reads' HO162.out).2.2 | (with_reducible refine Kd.C_alloc ?_ _) | (with_reducible refine Kd.C_drewN ?_ _) | (with_reducible refine Kd.C_drew ?_))); (case aB => exact (by repeat (first | (with_reducible first | exact HB.out | apply below_alloc | apply pw_below_drewN | apply below_drew1 | refine below_set ?_ GE153.out) | exact HB.out))); (case aF => exact (fun k_ hk => ⟨Kd.fresh' (Kd.R_lt (by (with_reducible repeat (first | apply Kd.R_alloc | apply Kd.R_drewN | apply Kd.R_drew)); exact HO156.out)) k_ hk, Kd.fresh' (Kd.R_lt (by (with_reducible repeat (first | apply Kd.R_alloc | apply Kd.R_drewN | apply Kd.R_drew)); exact HO162.out)) k_ hk⟩)); (case aO => exact (by (with_reducible repeat (first | apply Kd.R_alloc | apply Kd.R_drewN | apply Kd.R_drew)); exact Kd.R_mono HO159.out (fun _ hk => ⟨hk.1.2, hk.2⟩))); (case aS => exact (below_size (by repeat (first | (with_reducible first | exact HB.out | apply below_alloc | apply pw_below_drewN | apply below_drew1 | refine below_set ?_ GE153.out) | exact HB.out)))); (case aL => have := LMc9.out; omega); intro v164 w14 ho hb hg hat; rw [← Ny163.out] at ho; have n0_ := Aside0.mk (blk_grown (g := gb153) (o := .cells #[.int .i64 a0_0, .bool true, .int .i64 a0_2, .slice A0_3 l0_3.length c0_3, .slice A0_4 l0_4.length c0_4, .bool a0_5, .bool a0_6] 26 (0, 0)) (by (with_reducible repeat (first | refine blk_drewN ?_ _ | refine blk_drew ?_ | refine blk_alloc ?_ _)); exact BK153.out) hg (Kd.R_ne HO159.out BK153.out (by decide))); have n1_ := Aside0.mk (Kd.R_after (ok := (fun k_ => some k_ ≠ (.slice Ao15 t160.length co15 : Value).ownBlock)) (by (with_reducible repeat (first | apply Kd.R_alloc | apply Kd.R_drewN | apply Kd.R_drew)); exact Kd.R_mono HO156.out (fun _ hk => ⟨hk.2, hk.1.2⟩)) hg hat); have n2_ := Aside0.mk (Kd.R_after (ok := (fun k_ => some k_ ≠ (v155 : Value).ownBlock)) (by (with_reducible repeat (first | apply Kd.R_alloc | apply Kd.R_drewN | apply Kd.R_drew)); exact Kd.R_mono HO162.out (fun _ hk => ⟨hk.1.2, hk.2⟩)) hg hat); have n3_ := Aside0.mk (hb); have n4_ := Aside0.mk (ho); clear BK153; clear HO156; clear HO162; clear HB; clear HO159; have BK153 := n0_; have HO156 := n1_; have HO162 := n2_; have HB := n3_; have HO165 := n4_; clear n0_ n1_ n2_ n3_ n4_; clear ho hb hg hat))
        go_meet
        case rel => exact ⟨_, (y163), H', ⟨by first | omega | exact Nat.le_refl _⟩, ⟨by (with_reducible repeat (first | apply Kd.R_alloc | apply Kd.R_drewN | apply Kd.R_drew)); exact Kd.R_mono HO165.out (fun _ hk => trivial)⟩, ⟨by (with_reducible repeat (first | refine blk_drewN ?_ _ | refine blk_drew ?_ | refine blk_alloc ?_ _)); exact BK153.out⟩, ⟨by repeat (first | (with_reducible first | exact HB.out | apply below_alloc | apply pw_below_drewN | apply below_drew1 | refine below_set ?_ GE153.out) | exact HB.out)⟩⟩
      · rw [if_neg c9] at H
        exact absurd H (by simp)
    · replace c7 := Bool.eq_false_iff.mpr c7
      subst c7
      have H1 : (impl_Old_bytesOf.j0 k y154 a0_0 false a0_2 l0_3 l0_4 a0_5 a0_6) = some r := by rw [if_neg (show ¬ (false = true) by decide)] at H; exact H
      clear H
      have H := H1
      clear H1
      have H' := Aside0.mk H
      clear H
      go_wp2
      go_meet
      case rel => exact ⟨_, (y154), H', ⟨by first | omega | exact Nat.le_refl _⟩, ⟨by (with_reducible repeat (first | apply Kd.R_alloc | apply Kd.R_drewN | apply Kd.R_drew)); exact HO156.out⟩, ⟨by (with_reducible repeat (first | refine blk_drewN ?_ _ | refine blk_drew ?_ | refine blk_alloc ?_ _)); exact BK153.out⟩, ⟨by repeat (first | (with_reducible first | exact HB.out | apply below_alloc | apply pw_below_drewN | apply below_drew1 | refine below_set ?_ GE153.out) | exact HB.out)⟩⟩
  case rest =>
    clear HC2
    try clear p2
    try clear c5
    try clear c7
    try clear c9
    try clear hcz12_0
    try clear hcz12_1
    try clear hcz12_2
    try clear hcz12_3
    try clear hcz12_4
    try clear hcz12_5
    try clear hcz12_6
    try clear hcz6_0
    try clear hcz6_1
    try clear hcz6_2
    try clear hcz6_3
    try clear hcz6_4
    try clear hcz6_5
    try clear hcz6_6
    try clear hfz12_0
    try clear hfz12_1
    try clear hfz12_2
    try clear hfz12_3
    try clear hfz12_4
    try clear hfz12_5
    try clear hfz12_6
    try clear hfz6_0
    try clear hfz6_1
    try clear hfz6_2
    try clear hfz6_3
    try clear hfz6_4
    try clear hfz6_5
    try clear hfz6_6
    obtain ⟨kq, x3_1, HA, HJ1, HO_3, BK153, HB⟩ := hcut
    cases kq with
    | zero => exact absurd HA.out (by simp [impl_Old_bytesOf.j0])
    | succ kj1 =>
      have H := HA.out
      clear HA
      simp only [impl_Old_bytesOf.j0] at H
      replace H := Option.bind_eq_some_iff.mp H
      obtain ⟨t166, A160, H⟩ := H
      replace H : (if x3_1.length + t166.length < 17592186044416 then ((some (x3_1 ++ t166 : List Int)).bind fun y169 => ((impl_oldPart.f (!a0_6) l0_4).bind fun t172 => (if y169.length + t172.length < 17592186044416 then ((some (y169 ++ t172 : List Int)).bind fun y175 => ((impl_intOf.f kj1 a0_0 3).bind fun t178 => ((impl_sum_over.f kj1 1 y175).bind fun t181 => ((impl_intOf.f kj1 t181 2).bind fun t182 => ((slices_Concat_int_int.f (([t178, t182, y175] : List (List Int)))).bind fun t188 => (some t188)))))) else (none)))) else (none)) = some r := H
      have A16 := Aside0.mk A160
      clear A160
      by_cases c17 : x3_1.length + t166.length < 17592186044416
      · rw [if_pos c17] at H
        have LMc17 := Aside0.mk c17
        clear c17
        obtain ⟨y169, hy169⟩ : ∃ y_ : List Int, y_ = (x3_1 ++ t166) := ⟨_, rfl⟩
        replace H : ((impl_oldPart.f (!a0_6) l0_4).bind fun t172 => (if y169.length + t172.length < 17592186044416 then ((some (y169 ++ t172 : List Int)).bind fun y175 => ((impl_intOf.f kj1 a0_0 3).bind fun t178 => ((impl_sum_over.f kj1 1 y175).bind fun t181 => ((impl_intOf.f kj1 t181 2).bind fun t182 => ((slices_Concat_int_int.f (([t178, t182, y175] : List (List Int)))).bind fun t188 => (some t188)))))) else (none))) = some r := by first | (rw [hy169]; with_reducible exact H) | (have H2_ := (Option.bind_some _ _).symm.trans H; rw [hy169]; with_reducible exact H2_) | (have H2_ := (Option.bind_some _ _).symm.trans H; with_reducible exact H2_) | with_reducible exact H | (rw [hy169]; exact H) | exact H
        have Ny169 := Aside0.mk hy169
        clear hy169
        replace H := Option.bind_eq_some_iff.mp H
        obtain ⟨t172, A180, H⟩ := H
        replace H : (if y169.length + t172.length < 17592186044416 then ((some (y169 ++ t172 : List Int)).bind fun y175 => ((impl_intOf.f kj1 a0_0 3).bind fun t178 => ((impl_sum_over.f kj1 1 y175).bind fun t181 => ((impl_intOf.f kj1 t181 2).bind fun t182 => ((slices_Concat_int_int.f (([t178, t182, y175] : List (List Int)))).bind fun t188 => (some t188)))))) else (none)) = some r := H
        have A18 := Aside0.mk A180
        clear A180
        by_cases c19 : y169.length + t172.length < 17592186044416
        · rw [if_pos c19] at H
          have LMc19 := Aside0.mk c19
          clear c19
          obtain ⟨y175, hy175⟩ : ∃ y_ : List Int, y_ = (y169 ++ t172) := ⟨_, rfl⟩
          replace H : ((impl_intOf.f kj1 a0_0 3).bind fun t178 => ((impl_sum_over.f kj1 1 y175).bind fun t181 => ((impl_intOf.f kj1 t181 2).bind fun t182 => ((slices_Concat_int_int.f (([t178, t182, y175] : List (List Int)))).bind fun t188 => (some t188))))) = some r := by first | (rw [hy175]; with_reducible exact H) | (have H2_ := (Option.bind_some _ _).symm.trans H; rw [hy175]; with_reducible exact H2_) | (have H2_ := (Option.bind_some _ _).symm.trans H; with_reducible exact H2_) | with_reducible exact H | (rw [hy175]; exact H) | exact H
          have Ny175 := Aside0.mk hy175
          clear hy175
          replace H := Option.bind_eq_some_iff.mp H
          obtain ⟨t178, A200, H⟩ := H
          replace H : ((impl_sum_over.f kj1 1 y175).bind fun t181 => ((impl_intOf.f kj1 t181 2).bind fun t182 => ((slices_Concat_int_int.f (([t178, t182, y175] : List (List Int)))).bind fun t188 => (some t188)))) = some r := H
          have A20 := Aside0.mk A200
          clear A200
          replace H := Option.bind_eq_some_iff.mp H
          obtain ⟨t181, A210, H⟩ := H
          replace H : ((impl_intOf.f kj1 t181 2).bind fun t182 => ((slices_Concat_int_int.f (([t178, t182, y175] : List (List Int)))).bind fun t188 => (some t188))) = some r := H
          have A21 := Aside0.mk A210
          clear A210
          replace H := Option.bind_eq_some_iff.mp H
          obtain ⟨t182, A220, H⟩ := H
          replace H : ((slices_Concat_int_int.f (([t178, t182, y175] : List (List Int)))).bind fun t188 => (some t188)) = some r := H
          have A22 := Aside0.mk A220
          clear A220
          obtain ⟨y185, hy185⟩ : ∃ y_ : List (List Int), y_ = (([t178, t182, y175] : List (List Int))) := ⟨_, rfl⟩
          replace H : ((slices_Concat_int_int.f y185).bind fun t188 => (some t188)) = some r := by first | (rw [hy185]; with_reducible exact H) | (have H2_ := (Option.bind_some _ _).symm.trans H; rw [hy185]; with_reducible exact H2_) | (have H2_ := (Option.bind_some _ _).symm.trans H; with_reducible exact H2_) | with_reducible exact H | (rw [hy185]; exact H) | exact H
          have Ny185 := Aside0.mk hy185
          clear hy185
          replace H := Option.bind_eq_some_iff.mp H
          obtain ⟨t188, A230, H⟩ := H
          replace H : (some t188) = some r := H
          have A23 := Aside0.mk A230
          clear A230
          obtain rfl := Option.some.inj H
          have hcz24_0 : wc.cell? ⟨gb153, 0, none⟩ = some (.int .i64 a0_0) := (blk_cell BK153.out 0).trans rfl
          have hcz24_1 : wc.cell? ⟨gb153, 1, none⟩ = some (.bool a0_1) := (blk_cell BK153.out 1).trans rfl
          have hcz24_2 : wc.cell? ⟨gb153, 2, none⟩ = some (.int .i64 a0_2) := (blk_cell BK153.out 2).trans rfl
          have hcz24_3 : wc.cell? ⟨gb153, 3, none⟩ = some (.slice A0_3 l0_3.length c0_3) := (blk_cell BK153.out 3).trans rfl
          have hcz24_4 : wc.cell? ⟨gb153, 4, none⟩ = some (.slice A0_4 l0_4.length c0_4) := (blk_cell BK153.out 4).trans rfl
          have hcz24_5 : wc.cell? ⟨gb153, 5, none⟩ = some (.bool a0_5) := (blk_cell BK153.out 5).trans rfl
          have hcz24_6 : wc.cell? ⟨gb153, 6, none⟩ = some (.bool a0_6) := (blk_cell BK153.out 6).trans rfl
          have hfz24_0 := blk_frozen BK153.out 0
          have hfz24_1 := blk_frozen BK153.out 1
          have hfz24_2 := blk_frozen BK153.out 2
          have hfz24_3 := blk_frozen BK153.out 3
          have hfz24_4 := blk_frozen BK153.out 4
          have hfz24_5 := blk_frozen BK153.out 5
          have hfz24_6 := blk_frozen BK153.out 6
          go_wp2_with (first | ((with_reducible refine gate_callee (f := 77) rfl ?_); refine goesL_ (some 17) rfl rfl Try.func77 (by kernel_rfl) rfl #[.bool a0_5, .slice A0_3 l0_3.length c0_3] rfl (by (try simp only [List.map_toArray, List.map_cons, List.map_nil]); first | done | rfl | (simp only [List.length_drop, List.length_take]; rfl)) ?_; (with_reducible refine (impl_oldPart.calls a0_5 _ _ l0_3 t166 _ ?side1 ?side2 A16.out).mono ?_); (case side1 => repeat (first | exact (Kd.C_below HR0_3.out HB.out) | (with_reducible refine Kd.C_alloc ?_ _) | (with_reducible refine Kd.C_drewN ?_ _) | (with_reducible refine Kd.C_drew ?_))); (case side2 => exact HC0_3.out); rintro e w25 ⟨v167, rfl, ho0, hb⟩; refine ⟨_, rfl, ?_⟩; have n0_ := Aside0.mk (Kd.R_elder' (by (with_reducible repeat (first | apply Kd.R_alloc | apply Kd.R_drewN | apply Kd.R_drew)); exact HO_3.out) (Kd.R_base ho0) hb); have n1_ := Aside0.mk (Kd.R_lower (Kd.R_new' ho0 (Kd.R_lt (by (with_reducible repeat (first | apply Kd.R_alloc | apply Kd.R_drewN | apply Kd.R_drew)); exact HO_3.out))) (below_size (by repeat (first | (with_reducible first | exact HB.out | apply below_alloc | apply pw_below_drewN | apply below_drew1 | refine below_set ?_ GE153.out) | exact HB.out)))); have n2_ := Aside0.mk (blk_below (g := gb153) (o := .cells #[.int .i64 a0_0, .bool a0_1, .int .i64 a0_2, .slice A0_3 l0_3.length c0_3, .slice A0_4 l0_4.length c0_4, .bool a0_5, .bool a0_6] 26 (0, 0)) (by (with_reducible repeat (first | refine blk_drewN ?_ _ | refine blk_drew ?_ | refine blk_alloc ?_ _)); exact BK153.out) hb); have n3_ := Aside0.mk (below_step (by repeat (first | (with_reducible first | exact HB.out | apply below_alloc | apply pw_below_drewN | apply below_drew1 | refine below_set ?_ GE153.out) | exact HB.out)) hb); clear HO_3; clear BK153; clear HB; have HO_3 := n0_; have HO168 := n1_; have BK153 := n2_; have HB := n3_; clear n0_ n1_ n2_ n3_; (try clear hb); (try clear hb2); (try clear hk); (try clear hi); (try clear ho0); obtain ⟨Ao27, co27, eo27⟩ := Kd.R_slice HO168.out; subst eo27) | ((with_reducible refine gate_builtin (b := .append) (xs := #[.tmp 12, .tmp 17]) rfl ?_); at_builtin; refine Kd.R_append_rows (Kd.int .i64) (w0 := w) w.heap.size rfl (.tmp 12) (.tmp 17) 23 3 (.int .i64 0) 8 rfl Try.underlying23 info3 rfl (by decide) (by omega) u3 x3_1 t166 _ _ _ (fun k_ => some k_ ≠ (.slice Ao27 t166.length co27 : Value).ownBlock) (fun _ => False) rfl rfl ?aO ?aR (fun _ _ h => h) (fun _ h => h.elim) ?aF ?aB ?aS ?aL ?_; (case aR => repeat (first | exact (Kd.R_reads' HO168.out).2.2 | (with_reducible refine Kd.C_alloc ?_ _) | (with_reducible refine Kd.C_drewN ?_ _) | (with_reducible refine Kd.C_drew ?_))); (case aB => exact (by repeat (first | (with_reducible first | exact HB.out | apply below_alloc | apply pw_below_drewN | apply below_drew1 | refine below_set ?_ GE153.out) | exact HB.out))); (case aF => exact (fun k_ hk => Kd.fresh' (Kd.R_lt (by (with_reducible repeat (first | apply Kd.R_alloc | apply Kd.R_drewN | apply Kd.R_drew)); exact HO168.out)) k_ hk)); (case aO => exact (by (with_reducible repeat (first | apply Kd.R_alloc | apply Kd.R_drewN | apply Kd.R_drew)); exact Kd.R_mono HO_3.out (fun _ hk => hk.2))); (case aS => exact (below_size (by repeat (first | (with_reducible first | exact HB.out | apply below_alloc | apply pw_below_drewN | apply below_drew1 | refine below_set ?_ GE153.out) | exact HB.out)))); (case aL => have := LMc17.out; omega); intro v170 w26 ho hb hg hat; rw [← Ny169.out] at ho; have n0_ := Aside0.mk (blk_grown (g := gb153) (o := .cells #[.int .i64 a0_0, .bool a0_1, .int .i64 a0_2, .slice A0_3 l0_3.length c0_3, .slice A0_4 l0_4.length c0_4, .bool a0_5, .bool a0_6] 26 (0, 0)) (by (with_reducible repeat (first | refine blk_drewN ?_ _ | refine blk_drew ?_ | refine blk_alloc ?_ _)); exact BK153.out) hg (Kd.R_ne HO_3.out BK153.out (by decide))); have n1_ := Aside0.mk (Kd.R_after (ok := (fun _ => True)) (by (with_reducible repeat (first | apply Kd.R_alloc | apply Kd.R_drewN | apply Kd.R_drew)); exact HO168.out) hg hat); have n2_ := Aside0.mk (hb); have n3_ := Aside0.mk (ho); clear BK153; clear HO168; clear HB; clear HO_3; have BK153 := n0_; have HO168 := n1_; have HB := n2_; have HO171 := n3_; clear n0_ n1_ n2_ n3_; clear ho hb hg hat; have hcz28_0 : w26.cell? ⟨gb153, 0, none⟩ = some (.int .i64 a0_0) := (blk_cell BK153.out 0).trans rfl; have hcz28_1 : w26.cell? ⟨gb153, 1, none⟩ = some (.bool a0_1) := (blk_cell BK153.out 1).trans rfl; have hcz28_2 : w26.cell? ⟨gb153, 2, none⟩ = some (.int .i64 a0_2) := (blk_cell BK153.out 2).trans rfl; have hcz28_3 : w26.cell? ⟨gb153, 3, none⟩ = some (.slice A0_3 l0_3.length c0_3) := (blk_cell BK153.out 3).trans rfl; have hcz28_4 : w26.cell? ⟨gb153, 4, none⟩ = some (.slice A0_4 l0_4.length c0_4) := (blk_cell BK153.out 4).trans rfl; have hcz28_5 : w26.cell? ⟨gb153, 5, none⟩ = some (.bool a0_5) := (blk_cell BK153.out 5).trans rfl; have hcz28_6 : w26.cell? ⟨gb153, 6, none⟩ = some (.bool a0_6) := (blk_cell BK153.out 6).trans rfl; have hfz28_0 := blk_frozen BK153.out 0; have hfz28_1 := blk_frozen BK153.out 1; have hfz28_2 := blk_frozen BK153.out 2; have hfz28_3 := blk_frozen BK153.out 3; have hfz28_4 := blk_frozen BK153.out 4; have hfz28_5 := blk_frozen BK153.out 5; have hfz28_6 := blk_frozen BK153.out 6) | ((with_reducible refine gate_callee (f := 77) rfl ?_); refine goesL_ (some 25) rfl rfl Try.func77 (by kernel_rfl) rfl #[.bool (!a0_6), .slice A0_4 l0_4.length c0_4] rfl (by (try simp only [List.map_toArray, List.map_cons, List.map_nil]); first | done | rfl | (simp only [List.length_drop, List.length_take]; rfl)) ?_; (with_reducible refine (impl_oldPart.calls (!a0_6) _ _ l0_4 t172 _ ?side1 ?side2 A18.out).mono ?_); (case side1 => repeat (first | exact (Kd.C_below HR0_4.out HB.out) | (with_reducible refine Kd.C_alloc ?_ _) | (with_reducible refine Kd.C_drewN ?_ _) | (with_reducible refine Kd.C_drew ?_))); (case side2 => exact HC0_4.out); rintro e w29 ⟨v173, rfl, ho0, hb⟩; refine ⟨_, rfl, ?_⟩; have n0_ := Aside0.mk (Kd.R_elder' (by (with_reducible repeat (first | apply Kd.R_alloc | apply Kd.R_drewN | apply Kd.R_drew)); exact HO168.out) (Kd.R_base ho0) hb); have n1_ := Aside0.mk (Kd.R_elder' (by (with_reducible repeat (first | apply Kd.R_alloc | apply Kd.R_drewN | apply Kd.R_drew)); exact HO171.out) (Kd.R_base ho0) hb); have n2_ := Aside0.mk (Kd.R_lower (Kd.R_new' (Kd.R_new' ho0 (Kd.R_lt (by (with_reducible repeat (first | apply Kd.R_alloc | apply Kd.R_drewN | apply Kd.R_drew)); exact HO168.out))) (Kd.R_lt (by (with_reducible repeat (first | apply Kd.R_alloc | apply Kd.R_drewN | apply Kd.R_drew)); exact HO171.out))) (below_size (by repeat (first | (with_reducible first | exact HB.out | apply below_alloc | apply pw_below_drewN | apply below_drew1 | refine below_set ?_ GE153.out) | exact HB.out)))); have n3_ := Aside0.mk (blk_below (g := gb153) (o := .cells #[.int .i64 a0_0, .bool a0_1, .int .i64 a0_2, .slice A0_3 l0_3.length c0_3, .slice A0_4 l0_4.length c0_4, .bool a0_5, .bool a0_6] 26 (0, 0)) (by (with_reducible repeat (first | refine blk_drewN ?_ _ | refine blk_drew ?_ | refine blk_alloc ?_ _)); exact BK153.out) hb); have n4_ := Aside0.mk (below_step (by repeat (first | (with_reducible first | exact HB.out | apply below_alloc | apply pw_below_drewN | apply below_drew1 | refine below_set ?_ GE153.out) | exact HB.out)) hb); clear HO168; clear HO171; clear BK153; clear HB; have HO168 := n0_; have HO171 := n1_; have HO174 := n2_; have BK153 := n3_; have HB := n4_; clear n0_ n1_ n2_ n3_ n4_; (try clear hb); (try clear hb2); (try clear hk); (try clear hi); (try clear ho0); obtain ⟨Ao31, co31, eo31⟩ := Kd.R_slice HO174.out; subst eo31) | ((with_reducible refine gate_builtin (b := .append) (xs := #[.tmp 19, .tmp 25]) rfl ?_); at_builtin; refine Kd.R_append_rows (Kd.int .i64) (w0 := w) w.heap.size rfl (.tmp 19) (.tmp 25) 23 3 (.int .i64 0) 8 rfl Try.underlying23 info3 rfl (by decide) (by omega) v170 y169 t172 _ _ _ (fun k_ => some k_ ≠ (.slice Ao27 t166.length co27 : Value).ownBlock ∧ some k_ ≠ (.slice Ao31 t172.length co31 : Value).ownBlock) (fun _ => False) rfl rfl ?aO ?aR (fun _ _ h => h) (fun _ h => h.elim) ?aF ?aB ?aS ?aL ?_; (case aR => repeat (first | exact (Kd.R_reads' HO174.out).2.2 | (with_reducible refine Kd.C_alloc ?_ _) | (with_reducible refine Kd.C_drewN ?_ _) | (with_reducible refine Kd.C_drew ?_))); (case aB => exact (by repeat (first | (with_reducible first | exact HB.out | apply below_alloc | apply pw_below_drewN | apply below_drew1 | refine below_set ?_ GE153.out) | exact HB.out))); (case aF => exact (fun k_ hk => ⟨Kd.fresh' (Kd.R_lt (by (with_reducible repeat (first | apply Kd.R_alloc | apply Kd.R_drewN | apply Kd.R_drew)); exact HO168.out)) k_ hk, Kd.fresh' (Kd.R_lt (by (with_reducible repeat (first | apply Kd.R_alloc | apply Kd.R_drewN | apply Kd.R_drew)); exact HO174.out)) k_ hk⟩)); (case aO => exact (by (with_reducible repeat (first | apply Kd.R_alloc | apply Kd.R_drewN | apply Kd.R_drew)); exact HO171.out)); (case aS => exact (below_size (by repeat (first | (with_reducible first | exact HB.out | apply below_alloc | apply pw_below_drewN | apply below_drew1 | refine below_set ?_ GE153.out) | exact HB.out)))); (case aL => have := LMc19.out; omega); intro v176 w30 ho hb hg hat; rw [← Ny175.out] at ho; have n0_ := Aside0.mk (blk_grown (g := gb153) (o := .cells #[.int .i64 a0_0, .bool a0_1, .int .i64 a0_2, .slice A0_3 l0_3.length c0_3, .slice A0_4 l0_4.length c0_4, .bool a0_5, .bool a0_6] 26 (0, 0)) (by (with_reducible repeat (first | refine blk_drewN ?_ _ | refine blk_drew ?_ | refine blk_alloc ?_ _)); exact BK153.out) hg (Kd.R_ne HO171.out BK153.out (by decide))); have n1_ := Aside0.mk (Kd.R_after (ok := (fun k_ => some k_ ≠ (.slice Ao31 t172.length co31 : Value).ownBlock)) (by (with_reducible repeat (first | apply Kd.R_alloc | apply Kd.R_drewN | apply Kd.R_drew)); exact Kd.R_mono HO168.out (fun _ hk => ⟨hk.2, hk.1.2⟩)) hg hat); have n2_ := Aside0.mk (Kd.R_after (ok := (fun k_ => some k_ ≠ (.slice Ao27 t166.length co27 : Value).ownBlock)) (by (with_reducible repeat (first | apply Kd.R_alloc | apply Kd.R_drewN | apply Kd.R_drew)); exact Kd.R_mono HO174.out (fun _ hk => ⟨hk.1.2, hk.2⟩)) hg hat); have n3_ := Aside0.mk (hb); have n4_ := Aside0.mk (ho); clear BK153; clear HO168; clear HO174; clear HB; clear HO171; have BK153 := n0_; have HO168 := n1_; have HO174 := n2_; have HB := n3_; have HO177 := n4_; clear n0_ n1_ n2_ n3_ n4_; clear ho hb hg hat; have hcz32_0 : w30.cell? ⟨gb153, 0, none⟩ = some (.int .i64 a0_0) := (blk_cell BK153.out 0).trans rfl; have hcz32_1 : w30.cell? ⟨gb153, 1, none⟩ = some (.bool a0_1) := (blk_cell BK153.out 1).trans rfl; have hcz32_2 : w30.cell? ⟨gb153, 2, none⟩ = some (.int .i64 a0_2) := (blk_cell BK153.out 2).trans rfl; have hcz32_3 : w30.cell? ⟨gb153, 3, none⟩ = some (.slice A0_3 l0_3.length c0_3) := (blk_cell BK153.out 3).trans rfl; have hcz32_4 : w30.cell? ⟨gb153, 4, none⟩ = some (.slice A0_4 l0_4.length c0_4) := (blk_cell BK153.out 4).trans rfl; have hcz32_5 : w30.cell? ⟨gb153, 5, none⟩ = some (.bool a0_5) := (blk_cell BK153.out 5).trans rfl; have hcz32_6 : w30.cell? ⟨gb153, 6, none⟩ = some (.bool a0_6) := (blk_cell BK153.out 6).trans rfl; have hfz32_0 := blk_frozen BK153.out 0; have hfz32_1 := blk_frozen BK153.out 1; have hfz32_2 := blk_frozen BK153.out 2; have hfz32_3 := blk_frozen BK153.out 3; have hfz32_4 := blk_frozen BK153.out 4; have hfz32_5 := blk_frozen BK153.out 5; have hfz32_6 := blk_frozen BK153.out 6) | ((with_reducible refine gate_callee (f := 76) rfl ?_); refine goesL_ (some 29) rfl rfl Try.func76 (by kernel_rfl) rfl #[.int .i64 a0_0, .int .i64 3] rfl (by (try simp only [List.map_toArray, List.map_cons, List.map_nil]); first | done | rfl | (simp only [List.length_drop, List.length_take]; rfl)) ?_; (with_reducible refine (impl_intOf.calls kj1 a0_0 3 t178 _ A20.out).mono ?_); rintro e w33 ⟨v179, rfl, ho0, hb⟩; refine ⟨_, rfl, ?_⟩; have n0_ := Aside0.mk (Kd.R_elder' (by (with_reducible repeat (first | apply Kd.R_alloc | apply Kd.R_drewN | apply Kd.R_drew)); exact HO168.out) (Kd.R_base ho0) hb); have n1_ := Aside0.mk (Kd.R_elder' (by (with_reducible repeat (first | apply Kd.R_alloc | apply Kd.R_drewN | apply Kd.R_drew)); exact HO174.out) (Kd.R_base ho0) hb); have n2_ := Aside0.mk (Kd.R_elder' (by (with_reducible repeat (first | apply Kd.R_alloc | apply Kd.R_drewN | apply Kd.R_drew)); exact HO177.out) (Kd.R_base ho0) hb); have n3_ := Aside0.mk (Kd.R_lower (Kd.R_new' (Kd.R_new' (Kd.R_new' ho0 (Kd.R_lt (by (with_reducible repeat (first | apply Kd.R_alloc | apply Kd.R_drewN | apply Kd.R_drew)); exact HO168.out))) (Kd.R_lt (by (with_reducible repeat (first | apply Kd.R_alloc | apply Kd.R_drewN | apply Kd.R_drew)); exact HO174.out))) (Kd.R_lt (by (with_reducible repeat (first | apply Kd.R_alloc | apply Kd.R_drewN | apply Kd.R_drew)); exact HO177.out))) (below_size (by repeat (first | (with_reducible first | exact HB.out | apply below_alloc | apply pw_below_drewN | apply below_drew1 | refine below_set ?_ GE153.out) | exact HB.out)))); have n4_ := Aside0.mk (blk_below (g := gb153) (o := .cells #[.int .i64 a0_0, .bool a0_1, .int .i64 a0_2, .slice A0_3 l0_3.length c0_3, .slice A0_4 l0_4.length c0_4, .bool a0_5, .bool a0_6] 26 (0, 0)) (by (with_reducible repeat (first | refine blk_drewN ?_ _ | refine blk_drew ?_ | refine blk_alloc ?_ _)); exact BK153.out) hb); have n5_ := Aside0.mk (below_step (by repeat (first | (with_reducible first | exact HB.out | apply below_alloc | apply pw_below_drewN | apply below_drew1 | refine below_set ?_ GE153.out) | exact HB.out)) hb); clear HO168; clear HO174; clear HO177; clear BK153; clear HB; have HO168 := n0_; have HO174 := n1_; have HO177 := n2_; have HO180 := n3_; have BK153 := n4_; have HB := n5_; clear n0_ n1_ n2_ n3_ n4_ n5_; (try clear hb); (try clear hb2); (try clear hk); (try clear hi); (try clear ho0); obtain ⟨Ao34, co34, eo34⟩ := Kd.R_slice HO177.out; subst eo34) | ((with_reducible refine gate_callee (f := 79) rfl ?_); refine goesL_ (some 31) rfl rfl Try.func79 (by kernel_rfl) rfl #[.int .i64 1, .slice Ao34 y175.length co34] rfl (by (try simp only [List.map_toArray, List.map_cons, List.map_nil]); first | done | rfl | (simp only [List.length_drop, List.length_take]; rfl)) ?_; (with_reducible refine (impl_sum_over.calls kj1 1 _ _ y175 t181 _ ?side1 ?side2 A21.out).mono ?_); (case side1 => repeat (first | exact (Kd.R_reads' HO177.out).2.2 | (with_reducible refine Kd.C_alloc ?_ _) | (with_reducible refine Kd.C_drewN ?_ _) | (with_reducible refine Kd.C_drew ?_))); (case side2 => exact (Kd.R_reads' HO177.out).2.1); rintro e w' ⟨rfl, ⟨nd, rfl⟩⟩; refine ⟨_, rfl, ?_⟩) | ((with_reducible refine gate_callee (f := 76) rfl ?_); refine goesL_ (some 32) rfl rfl Try.func76 (by kernel_rfl) rfl #[.int .i64 t181, .int .i64 2] rfl (by (try simp only [List.map_toArray, List.map_cons, List.map_nil]); first | done | rfl | (simp only [List.length_drop, List.length_take]; rfl)) ?_; (with_reducible refine (impl_intOf.calls kj1 t181 2 t182 _ A22.out).mono ?_); rintro e w35 ⟨v183, rfl, ho0, hb⟩; refine ⟨_, rfl, ?_⟩; have n0_ := Aside0.mk (Kd.R_elder' (by (with_reducible repeat (first | apply Kd.R_alloc | apply Kd.R_drewN | apply Kd.R_drew)); exact HO168.out) (Kd.R_base ho0) hb); have n1_ := Aside0.mk (Kd.R_elder' (by (with_reducible repeat (first | apply Kd.R_alloc | apply Kd.R_drewN | apply Kd.R_drew)); exact HO174.out) (Kd.R_base ho0) hb); have n2_ := Aside0.mk (Kd.R_elder' (by (with_reducible repeat (first | apply Kd.R_alloc | apply Kd.R_drewN | apply Kd.R_drew)); exact HO177.out) (Kd.R_base ho0) hb); have n3_ := Aside0.mk (Kd.R_elder' (by (with_reducible repeat (first | apply Kd.R_alloc | apply Kd.R_drewN | apply Kd.R_drew)); exact HO180.out) (Kd.R_base ho0) hb); have n4_ := Aside0.mk (Kd.R_lower (Kd.R_new' (Kd.R_new' (Kd.R_new' (Kd.R_new' ho0 (Kd.R_lt (by (with_reducible repeat (first | apply Kd.R_alloc | apply Kd.R_drewN | apply Kd.R_drew)); exact HO168.out))) (Kd.R_lt (by (with_reducible repeat (first | apply Kd.R_alloc | apply Kd.R_drewN | apply Kd.R_drew)); exact HO174.out))) (Kd.R_lt (by (with_reducible repeat (first | apply Kd.R_alloc | apply Kd.R_drewN | apply Kd.R_drew)); exact HO177.out))) (Kd.R_lt (by (with_reducible repeat (first | apply Kd.R_alloc | apply Kd.R_drewN | apply Kd.R_drew)); exact HO180.out))) (below_size (by repeat (first | (with_reducible first | exact HB.out | apply below_alloc | apply pw_below_drewN | apply below_drew1 | refine below_set ?_ GE153.out) | exact HB.out)))); have n5_ := Aside0.mk (blk_below (g := gb153) (o := .cells #[.int .i64 a0_0, .bool a0_1, .int .i64 a0_2, .slice A0_3 l0_3.length c0_3, .slice A0_4 l0_4.length c0_4, .bool a0_5, .bool a0_6] 26 (0, 0)) (by (with_reducible repeat (first | refine blk_drewN ?_ _ | refine blk_drew ?_ | refine blk_alloc ?_ _)); exact BK153.out) hb); have n6_ := Aside0.mk (below_step (by repeat (first | (with_reducible first | exact HB.out | apply below_alloc | apply pw_below_drewN | apply below_drew1 | refine below_set ?_ GE153.out) | exact HB.out)) hb); clear HO168; clear HO174; clear HO177; clear HO180; clear BK153; clear HB; have HO168 := n0_; have HO174 := n1_; have HO177 := n2_; have HO180 := n3_; have HO184 := n4_; have BK153 := n5_; have HB := n6_; clear n0_ n1_ n2_ n3_ n4_ n5_ n6_; (try clear hb); (try clear hb2); (try clear hk); (try clear hi); (try clear ho0); obtain ⟨Ao36, co36, eo36⟩ := Kd.R_slice HO180.out; subst eo36; obtain ⟨Ao37, co37, eo37⟩ := Kd.R_slice HO184.out; subst eo37) | ((with_reducible refine gate_dst (N := 34) rfl ?_); refine Kd.N_lit (Kd.slice 3 (Kd.int .i64)) _ 23 ?hg (N' := 34) ?hd (xs := ([t178, t182, y175] : List (List Int))) (inner := [.slice Ao36 t178.length co36, .slice Ao37 t182.length co37, .slice Ao34 y175.length co34]) (ok := (fun k_ => some k_ ≠ (.slice Ao27 t166.length co27 : Value).ownBlock ∧ some k_ ≠ (.slice Ao31 t172.length co31 : Value).ownBlock ∧ k_ ≠ gb153)) (okp := (fun k_ => some k_ ≠ (.slice Ao27 t166.length co27 : Value).ownBlock ∧ some k_ ≠ (.slice Ao31 t172.length co31 : Value).ownBlock ∧ k_ ≠ gb153)) ?hr ?hp (fun _ hk => hk) ((show ∀ k_, w35.heap.size ≤ k_ → (fun k_ => some k_ ≠ (.slice Ao27 t166.length co27 : Value).ownBlock ∧ some k_ ≠ (.slice Ao31 t172.length co31 : Value).ownBlock ∧ k_ ≠ gb153) k_ from fun k_ hk => ⟨Kd.fresh' (Kd.R_lt (by (with_reducible repeat (first | apply Kd.R_alloc | apply Kd.R_drewN | apply Kd.R_drew)); exact HO168.out)) k_ hk, Kd.fresh' (Kd.R_lt (by (with_reducible repeat (first | apply Kd.R_alloc | apply Kd.R_drewN | apply Kd.R_drew)); exact HO174.out)) k_ hk, Kd.freshB (g := gb153) (o := .cells #[.int .i64 a0_0, .bool a0_1, .int .i64 a0_2, .slice A0_3 l0_3.length c0_3, .slice A0_4 l0_4.length c0_4, .bool a0_5, .bool a0_6] 26 (0, 0)) (by (with_reducible repeat (first | refine blk_drewN ?_ _ | refine blk_drew ?_ | refine blk_alloc ?_ _)); exact BK153.out) k_ hk⟩) _ (Nat.le_refl _)) (Below.refl _ _) (Nat.le_refl _) (by simp) ?_; (case hd => rfl); (case hg => rfl); (case hr => first | (go_simp; done) | (go_simp; rfl)); (case hp => exact (Reps.one (show Kd.FK (Kd.slice 3 (Kd.int .i64)) _ _ t178 [.slice Ao36 t178.length co36] from (Kd.FK_slice_mk (Kd.R_reads' (Kd.R_mono (ok' := (fun k_ => some k_ ≠ (.slice Ao27 t166.length co27 : Value).ownBlock ∧ some k_ ≠ (.slice Ao31 t172.length co31 : Value).ownBlock ∧ k_ ≠ gb153)) (Kd.R_types (HO180.out) BK153.out (by decide)) (fun k_ hk => ⟨hk.1.1.1.1.2, ⟨hk.1.1.1.2, hk.2⟩⟩))).2.1 (Kd.R_F (Kd.R_mono (ok' := (fun k_ => some k_ ≠ (.slice Ao27 t166.length co27 : Value).ownBlock ∧ some k_ ≠ (.slice Ao31 t172.length co31 : Value).ownBlock ∧ k_ ≠ gb153)) (Kd.R_types (HO180.out) BK153.out (by decide)) (fun k_ hk => ⟨hk.1.1.1.1.2, ⟨hk.1.1.1.2, hk.2⟩⟩))))) (Reps.one (show Kd.FK (Kd.slice 3 (Kd.int .i64)) _ _ t182 [.slice Ao37 t182.length co37] from (Kd.FK_slice_mk (Kd.R_reads' (Kd.R_mono (ok' := (fun k_ => some k_ ≠ (.slice Ao27 t166.length co27 : Value).ownBlock ∧ some k_ ≠ (.slice Ao31 t172.length co31 : Value).ownBlock ∧ k_ ≠ gb153)) (Kd.R_types (HO184.out) BK153.out (by decide)) (fun k_ hk => ⟨hk.1.1.1.1.2, ⟨hk.1.1.1.2, hk.2⟩⟩))).2.1 (Kd.R_F (Kd.R_mono (ok' := (fun k_ => some k_ ≠ (.slice Ao27 t166.length co27 : Value).ownBlock ∧ some k_ ≠ (.slice Ao31 t172.length co31 : Value).ownBlock ∧ k_ ≠ gb153)) (Kd.R_types (HO184.out) BK153.out (by decide)) (fun k_ hk => ⟨hk.1.1.1.1.2, ⟨hk.1.1.1.2, hk.2⟩⟩))))) (Reps.one (show Kd.FK (Kd.slice 3 (Kd.int .i64)) _ _ y175 [.slice Ao34 y175.length co34] from (Kd.FK_slice_mk (Kd.R_reads' (Kd.R_mono (ok' := (fun k_ => some k_ ≠ (.slice Ao27 t166.length co27 : Value).ownBlock ∧ some k_ ≠ (.slice Ao31 t172.length co31 : Value).ownBlock ∧ k_ ≠ gb153)) (Kd.R_types (HO177.out) BK153.out (by decide)) (fun k_ hk => ⟨hk.1.1.1.1, ⟨hk.1.1.1.2, hk.2⟩⟩))).2.1 (Kd.R_F (Kd.R_mono (ok' := (fun k_ => some k_ ≠ (.slice Ao27 t166.length co27 : Value).ownBlock ∧ some k_ ≠ (.slice Ao31 t172.length co31 : Value).ownBlock ∧ k_ ≠ gb153)) (Kd.R_types (HO177.out) BK153.out (by decide)) (fun k_ hk => ⟨hk.1.1.1.1, ⟨hk.1.1.1.2, hk.2⟩⟩))))) (Reps.none _ _))))); intro v186 w38 ho39 hb hg_ hnew_; clear hg_ hnew_; (first | rw [← Ny185.out] at ho39 | (simp only [Int.reduceToNat] at ho39; rw [← Ny185.out] at ho39)); have n0_ := Aside0.mk (Kd.R_below (by (with_reducible repeat (first | apply Kd.R_alloc | apply Kd.R_drewN | apply Kd.R_drew)); exact HO168.out) hb); have n1_ := Aside0.mk (Kd.R_below (by (with_reducible repeat (first | apply Kd.R_alloc | apply Kd.R_drewN | apply Kd.R_drew)); exact HO174.out) hb); have n2_ := Aside0.mk (Kd.N_lower ho39 (below_size (by repeat (first | (with_reducible first | exact HB.out | apply below_alloc | apply pw_below_drewN | apply below_drew1 | refine below_set ?_ GE153.out) | exact HB.out)))); have n3_ := Aside0.mk (blk_below (g := gb153) (o := .cells #[.int .i64 a0_0, .bool a0_1, .int .i64 a0_2, .slice A0_3 l0_3.length c0_3, .slice A0_4 l0_4.length c0_4, .bool a0_5, .bool a0_6] 26 (0, 0)) (by (with_reducible repeat (first | refine blk_drewN ?_ _ | refine blk_drew ?_ | refine blk_alloc ?_ _)); exact BK153.out) hb); have n4_ := Aside0.mk (below_step (by repeat (first | (with_reducible first | exact HB.out | apply below_alloc | apply pw_below_drewN | apply below_drew1 | refine below_set ?_ GE153.out) | exact HB.out)) hb); clear HO168; clear HO174; clear BK153; clear HB; clear HO177; clear HO180; clear HO184; have HO168 := n0_; have HO174 := n1_; have HO187 := n2_; have BK153 := n3_; have HB := n4_; clear n0_ n1_ n2_ n3_ n4_; clear hb ho39; obtain ⟨Ao40, co40, eo40⟩ := Kd.N_slice HO187.out; subst eo40) | ((with_reducible refine gate_callee (f := 78) rfl ?_); refine goesL_ (some 35) rfl rfl Try.func78 (by kernel_rfl) rfl #[.slice Ao40 y185.length co40] rfl (by (try simp only [List.map_toArray, List.map_cons, List.map_nil]); first | done | rfl | (simp only [List.length_drop, List.length_take]; rfl)) ?_; (with_reducible refine (slices_Concat_int_int.calls _ _ y185 t188 _ ?side1 ?side2 A23.out).mono ?_); (case side1 => repeat (first | exact (Kd.N_reads' HO187.out).2.2 | (with_reducible refine Kd.C_alloc ?_ _) | (with_reducible refine Kd.C_drewN ?_ _) | (with_reducible refine Kd.C_drew ?_))); (case side2 => exact (Kd.N_reads' HO187.out).2.1); rintro e w41 ⟨v189, rfl, ho0, hb⟩; refine ⟨_, rfl, ?_⟩; have n0_ := Aside0.mk (Kd.R_elder' (by (with_reducible repeat (first | apply Kd.R_alloc | apply Kd.R_drewN | apply Kd.R_drew)); exact HO168.out) (Kd.R_base ho0) hb); have n1_ := Aside0.mk (Kd.R_elder' (by (with_reducible repeat (first | apply Kd.R_alloc | apply Kd.R_drewN | apply Kd.R_drew)); exact HO174.out) (Kd.R_base ho0) hb); have n2_ := Aside0.mk (Kd.N_elder' (by (with_reducible repeat (first | apply Kd.N_alloc | apply Kd.N_drewN | apply Kd.N_drew)); exact HO187.out) (Kd.R_base ho0) hb); have n3_ := Aside0.mk (Kd.R_lower (Kd.R_new' (Kd.R_new' ho0 (Kd.R_lt (by (with_reducible repeat (first | apply Kd.R_alloc | apply Kd.R_drewN | apply Kd.R_drew)); exact HO168.out))) (Kd.R_lt (by (with_reducible repeat (first | apply Kd.R_alloc | apply Kd.R_drewN | apply Kd.R_drew)); exact HO174.out))) (below_size (by repeat (first | (with_reducible first | exact HB.out | apply below_alloc | apply pw_below_drewN | apply below_drew1 | refine below_set ?_ GE153.out) | exact HB.out)))); have n4_ := Aside0.mk (blk_below (g := gb153) (o := .cells #[.int .i64 a0_0, .bool a0_1, .int .i64 a0_2, .slice A0_3 l0_3.length c0_3, .slice A0_4 l0_4.length c0_4, .bool a0_5, .bool a0_6] 26 (0, 0)) (by (with_reducible repeat (first | refine blk_drewN ?_ _ | refine blk_drew ?_ | refine blk_alloc ?_ _)); exact BK153.out) hb); have n5_ := Aside0.mk (below_step (by repeat (first | (with_reducible first | exact HB.out | apply below_alloc | apply pw_below_drewN | apply below_drew1 | refine below_set ?_ GE153.out) | exact HB.out)) hb); clear HO168; clear HO174; clear HO187; clear BK153; clear HB; have HO168 := n0_; have HO174 := n1_; have HO187 := n2_; have HO190 := n3_; have BK153 := n4_; have HB := n5_; clear n0_ n1_ n2_ n3_ n4_ n5_; (try clear hb); (try clear hb2); (try clear hk); (try clear hi); (try clear ho0)))
          go_ret
          exact ⟨_, by first | rfl | (simp [errW_none, errW_some] <;> rfl) | (simp [*, errW_none, errW_some] <;> rfl), by (with_reducible repeat (first | apply Kd.R_alloc | apply Kd.R_drewN | apply Kd.R_drew)); exact Kd.R_mono HO190.out (fun _ hk => trivial), by repeat (first | (with_reducible first | exact HB.out | apply below_alloc | apply pw_below_drewN | apply below_drew1 | refine below_set ?_ GE153.out) | exact HB.out)⟩
        · rw [if_neg c19] at H
          exact absurd H (by simp)
      · rw [if_neg c17] at H
        exact absurd H (by simp)

/-! ### impl_OldFrom: function 16 -/
theorem results_tmp4 {fn : Func} {t u v x : Tmp} (h : fn.results = #[.tmp t, .tmp u, .tmp v, .tmp x]) (tmps : Array Value) (P : Program) (w : World) :
    (results fn tmps).run P w = .ok (.tuple #[tmps.getD t undef, tmps.getD u undef, tmps.getD v undef, tmps.getD x undef]) w := by
  simp [results, h]
theorem cut_drop (A : Option Addr) (c : Nat) (xs : List Int) (j : Int) (h0 : 0 ≤ j) (hm : j ≤ xs.length) (hc : xs.length ≤ c) :
    ∃ (A' : Option Addr) (c' : Nat) (rs : List Int), rs = xs.drop j.toNat ∧ (∀ W : World, (Instr.slice 23 (.slice A xs.length c) (some (.int .i64 j)) none none).run Try.prog W = .ok (.slice A' rs.length c') W) ∧
      (∀ w : World, Kd.C (Kd.int .i64) w A xs.length xs → Kd.C (Kd.int .i64) w A' rs.length rs) ∧ rs.length ≤ c' := by
  obtain ⟨i0, hi0, _, hsz, _⟩ := info_parts info3
  obtain ⟨A', hcut, hA, hC⟩ := print_drop_of (P := Try.prog) (Value.int .i64) 0 23 3 .i64 Try.underlying23 hi0 hsz A c xs j h0 hm hc
  exact ⟨A', _, _, rfl, hcut, fun w h => Kd.C_of_reads (h1 := fun _ => rfl) (hA _ (Kd.reads_of_C h)), hC⟩
theorem cut_take (A : Option Addr) (c : Nat) (xs : List Int) (j : Int) (h0 : 0 ≤ j) (hm : j ≤ xs.length) (hc : xs.length ≤ c) :
    ∃ rs : List Int, rs = xs.take j.toNat ∧ (∀ W : World, (Instr.slice 23 (.slice A xs.length c) none (some (.int .i64 j)) none).run Try.prog W = .ok (.slice A rs.length c) W) ∧
      (∀ w : World, Kd.C (Kd.int .i64) w A xs.length xs → Kd.C (Kd.int .i64) w A rs.length rs) ∧ rs.length ≤ c := by
  obtain ⟨i0, hi0, _, hsz, _⟩ := info_parts info3
  obtain ⟨hcut, hA, hC⟩ := print_take_of (P := Try.prog) (Value.int .i64) 0 23 3 .i64 Try.underlying23 hi0 hsz A c xs j h0 hm hc
  exact ⟨_, rfl, hcut, fun w h => Kd.C_of_reads (h1 := fun _ => rfl) (hA _ (Kd.reads_of_C h)), hC⟩
def impl_oldPartFrom.f (l0 : List Int) : Option (Bool × List Int × List Int × Bool) :=
  if l0.length = 0 then some (false, [], [], false) else
  if rd l0 0 = 255 then some (false, [], l0.drop 1, true) else
  if rd l0 0 > 12 then some (false, [], [], false) else
  if rd l0 0 > ((l0.drop 1).length : Int) then some (false, [], [], false) else
  if 0 ≤ rd l0 0 then some (true, (l0.drop 1).take (rd l0 0).toNat, (l0.drop 1).drop (rd l0 0).toNat, true) else none
set_option maxHeartbeats 4000000 in
set_option maxRecDepth 100000 in
theorem oldPartFrom_calls (A0 : Option Addr) (c0 : Nat) (l0 : List Int) (r1 : Bool) (r2 r3 : List Int) (r4 : Bool) (w : World) (hr0 : Kd.C (Kd.int .i64) w A0 l0.length l0) (hc0 : l0.length ≤ c0) (h : impl_oldPartFrom.f l0 = some (r1, r2, r3, r4)) :
    Calls Try.prog 52 #[.slice A0 l0.length c0] w fun e w' => ∃ (v2 : Value) (A3 : Option Addr) (c3 : Nat), e = .returned (.tuple #[.bool r1, v2, .slice A3 r3.length c3, .bool r4]) ∧ Kd.R (Kd.int .i64) 3 w' w.heap.size (fun _ => True) v2 r2 ∧ Kd.C (Kd.int .i64) w A3 r3.length r3 ∧ r3.length ≤ c3 ∧ Below w.heap.size w w' := by
  unfold impl_oldPartFrom.f at h
  have nilC : Kd.C (Kd.int .i64) w none ([] : List Int).length [] := Kd.C_nil _ _
  by_cases c1 : l0.length = 0
  · rw [if_pos c1] at h
    simp only [Option.some.injEq, Prod.mk.injEq] at h
    obtain ⟨rfl, rfl, rfl, rfl⟩ := h
    have n1 : ((l0.length : Int) == 0) = true := by simpa using c1
    go_enter Try.func52, Try.ntmps52
    go_wp2
    ((try simp only [Exit.inBlock, Exit.then]); refine bodyPost_ret (results_tmp4 rfl _ _ _) rfl ?_)
    exact ⟨_, _, _, rfl, Kd.R_nil _ _ _ _ _, nilC, by simp, by repeat (first | exact Below.refl _ _ | apply pw_below_drewN)⟩
  rw [if_neg c1] at h
  obtain ⟨ad, e1, hx0⟩ := Kd.at_int hr0 0 (by decide) (by omega)
  cases e1
  have hx : w.cell? ad = some (.int .i64 (rd l0 0)) := by simpa [Addr.add] using hx0
  clear hx0
  have z1 : (0 < (l0.length : Int)) = True := eq_true (by omega)
  have n1 : ((l0.length : Int) == 0) = false := by simpa using c1
  obtain ⟨A1, cc1, rs, hrs, hcut1, hA1, hC1⟩ := cut_drop (some ad) c0 l0 1 (by decide) (by omega) hc0
  have hrs1 : l0.drop 1 = rs := hrs.symm
  rw [hrs1] at h
  clear hrs1 hrs
  have hCr := hA1 w hr0
  generalize hv : rd l0 0 = v at h hx
  by_cases c2 : v = 255
  · rw [if_pos c2] at h
    simp only [Option.some.injEq, Prod.mk.injEq] at h
    obtain ⟨rfl, rfl, rfl, rfl⟩ := h
    have n2 : (v == 255) = true := by simpa using c2
    go_enter Try.func52, Try.ntmps52
    go_wp2
    ((try simp only [Exit.inBlock, Exit.then]); refine bodyPost_ret (results_tmp4 rfl _ _ _) rfl ?_)
    exact ⟨_, _, _, rfl, Kd.R_nil _ _ _ _ _, hCr, hC1, by repeat (first | exact Below.refl _ _ | apply pw_below_drewN)⟩
  rw [if_neg c2] at h
  have n2 : (v == 255) = false := by simpa using c2
  by_cases c3 : v > 12
  · rw [if_pos c3] at h
    simp only [Option.some.injEq, Prod.mk.injEq] at h
    obtain ⟨rfl, rfl, rfl, rfl⟩ := h
    have n3 : decide (12 < v) = true := decide_eq_true c3
    go_enter Try.func52, Try.ntmps52
    go_wp2
    ((try simp only [Exit.inBlock, Exit.then]); refine bodyPost_ret (results_tmp4 rfl _ _ _) rfl ?_)
    exact ⟨_, _, _, rfl, Kd.R_nil _ _ _ _ _, nilC, by simp, by repeat (first | exact Below.refl _ _ | apply pw_below_drewN)⟩
  rw [if_neg c3] at h
  have n3 : decide (12 < v) = false := decide_eq_false c3
  by_cases c4 : v > (rs.length : Int)
  · rw [if_pos c4] at h
    simp only [Option.some.injEq, Prod.mk.injEq] at h
    obtain ⟨rfl, rfl, rfl, rfl⟩ := h
    have n4 : decide ((rs.length : Int) < v) = true := decide_eq_true c4
    go_enter Try.func52, Try.ntmps52
    go_wp2
    ((try simp only [Exit.inBlock, Exit.then]); refine bodyPost_ret (results_tmp4 rfl _ _ _) rfl ?_)
    first | exact ⟨.slice none 0 0, none, 0, rfl, Kd.R_nil _ _ _ _ _, nilC, by simp, by repeat (first | exact Below.refl _ _ | apply pw_below_drewN)⟩ | exact ⟨_, none, ⟨0, rfl⟩, Kd.R_nil _ _ _ _ _, nilC, by repeat (first | exact Below.refl _ _ | apply pw_below_drewN)⟩ | trace_state
  rw [if_neg c4] at h
  have n4 : decide ((rs.length : Int) < v) = false := decide_eq_false c4
  by_cases c5 : 0 ≤ v
  · rw [if_pos c5] at h
    simp only [Option.some.injEq, Prod.mk.injEq] at h
    obtain ⟨rfl, rfl, rfl, rfl⟩ := h
    obtain ⟨A2, cc2, ds, hds, hcut2, hA2, hC2⟩ := cut_drop A1 cc1 rs v c5 (by omega) hC1
    obtain ⟨ts, hts, hcut3, hA3, hC3⟩ := cut_take A1 cc1 rs v c5 (by omega) hC1
    have hlm : ts.length < 17592186044416 := by rw [hts, List.length_take]; omega
    rw [← hds, ← hts]
    have hK : slices_Clone_int_int.f ts = some ts := by unfold slices_Clone_int_int.f; rw [if_pos hlm]
    have hT := hA3 w hCr
    have hD := hA2 w hCr
    clear hds hts hlm
    go_enter Try.func52, Try.ntmps52
    go_wp2
    go_region_with (go_at_call 75; refine (slices_Clone_int_int.calls A1 cc1 ts ts _ (by first | exact hT | (with_reducible refine Kd.C_drewN ?_ _; exact hT)) hC3 hK).mono ?_; rintro e w' ⟨v2, rfl, ho, hb⟩)
    all_goals
      go_wp2
      ((try simp only [Exit.inBlock, Exit.then]); refine bodyPost_ret (results_tmp4 rfl _ _ _) rfl ?_)
      exact ⟨_, _, _, rfl, ho, hD, hC2, by first | exact hb | exact below_step (pw_below_drewN (Below.refl _ _) _) hb | exact pw_below_drewN (below_step (pw_below_drewN (Below.refl _ _) _) hb) _⟩
  · rw [if_neg c5] at h
    exact absurd h (by simp)
theorem old_set7 {w : World} {g : Nat} {a0 a1 a2 a3 a4 a5 a6 : Value} (h : w.heap[g]? = some (.cells #[a0, a1, a2, a3, a4, a5, a6] 26 (0, 0))) (b0 b1 b2 b3 b4 b5 b6 : Value) :
    (((((((w.setCell ⟨g, 0, none⟩ b0).setCell ⟨g, 1, none⟩ b1).setCell ⟨g, 2, none⟩ b2).setCell ⟨g, 3, none⟩ b3).setCell ⟨g, 4, none⟩ b4).setCell ⟨g, 5, none⟩ b5).setCell ⟨g, 6, none⟩ b6).heap[g]? = some (.cells #[b0, b1, b2, b3, b4, b5, b6] 26 (0, 0)) := by
  have h0 : (w.setCell ⟨g, 0, none⟩ b0).heap[g]? = some (.cells #[b0, a1, a2, a3, a4, a5, a6] 26 (0, 0)) := blk_put (cs := #[a0, a1, a2, a3, a4, a5, a6]) (cs' := #[b0, a1, a2, a3, a4, a5, a6]) h 0 b0 rfl
  generalize w.setCell ⟨g, 0, none⟩ b0 = W0 at h0 ⊢
  have h1 : (W0.setCell ⟨g, 1, none⟩ b1).heap[g]? = some (.cells #[b0, b1, a2, a3, a4, a5, a6] 26 (0, 0)) := blk_put (cs := #[b0, a1, a2, a3, a4, a5, a6]) (cs' := #[b0, b1, a2, a3, a4, a5, a6]) h0 1 b1 rfl
  generalize W0.setCell ⟨g, 1, none⟩ b1 = W1 at h1 ⊢
  have h2 : (W1.setCell ⟨g, 2, none⟩ b2).heap[g]? = some (.cells #[b0, b1, b2, a3, a4, a5, a6] 26 (0, 0)) := blk_put (cs := #[b0, b1, a2, a3, a4, a5, a6]) (cs' := #[b0, b1, b2, a3, a4, a5, a6]) h1 2 b2 rfl
  generalize W1.setCell ⟨g, 2, none⟩ b2 = W2 at h2 ⊢
  have h3 : (W2.setCell ⟨g, 3, none⟩ b3).heap[g]? = some (.cells #[b0, b1, b2, b3, a4, a5, a6] 26 (0, 0)) := blk_put (cs := #[b0, b1, b2, a3, a4, a5, a6]) (cs' := #[b0, b1, b2, b3, a4, a5, a6]) h2 3 b3 rfl
  generalize W2.setCell ⟨g, 3, none⟩ b3 = W3 at h3 ⊢
  have h4 : (W3.setCell ⟨g, 4, none⟩ b4).heap[g]? = some (.cells #[b0, b1, b2, b3, b4, a5, a6] 26 (0, 0)) := blk_put (cs := #[b0, b1, b2, b3, a4, a5, a6]) (cs' := #[b0, b1, b2, b3, b4, a5, a6]) h3 4 b4 rfl
  generalize W3.setCell ⟨g, 4, none⟩ b4 = W4 at h4 ⊢
  have h5 : (W4.setCell ⟨g, 5, none⟩ b5).heap[g]? = some (.cells #[b0, b1, b2, b3, b4, b5, a6] 26 (0, 0)) := blk_put (cs := #[b0, b1, b2, b3, b4, a5, a6]) (cs' := #[b0, b1, b2, b3, b4, b5, a6]) h4 5 b5 rfl
  generalize W4.setCell ⟨g, 5, none⟩ b5 = W5 at h5 ⊢
  have h6 : (W5.setCell ⟨g, 6, none⟩ b6).heap[g]? = some (.cells #[b0, b1, b2, b3, b4, b5, b6] 26 (0, 0)) := blk_put (cs := #[b0, b1, b2, b3, b4, b5, a6]) (cs' := #[b0, b1, b2, b3, b4, b5, b6]) h5 6 b6 rfl
  generalize W5.setCell ⟨g, 6, none⟩ b6 = W6 at h6 ⊢
  exact h6
theorem of_end {R : Ending → World → Prop} {tmps : Array Value} {w : World} (g : Nat) (cs : Array Value) (b : Bool) (hp : tmps.getD 2 undef = .pointer (some ⟨g, 0, none⟩)) (hq : tmps.getD 3 undef = .bool b) (hs : cs.size = 7)
    (hg : w.heap[g]? = some (.cells cs 26 (0, 0))) (hR : R (.returned (.tuple #[.agg cs, .bool b])) w) : bodyPost Try.prog Try.f16 R .ret ⟨tmps, []⟩ w := by
  refine bodyPost_ret (results_ct (fn := Try.f16) (p := 2) (u := 3) (ty := 26) rfl tmps w g 26 cs (0, 0) _ hp hg Try.underlying26 rfl (by rw [hs]; kernel_rfl)) rfl ?_
  rw [hq]
  exact hR
theorem drawn_blk {w w1 : World} {g : Nat} {o : Obj} (h : w.heap[g]? = some o) (hd : Drawn0 w w1) : w1.heap[g]? = some o := by
  obtain ⟨n, rfl⟩ := hd
  exact blk_drewN h n
theorem drawn_below {n : Nat} {w0 w w1 : World} (h : Below n w0 w) (hd : Drawn0 w w1) : Below n w0 w1 := by
  obtain ⟨m, rfl⟩ := hd
  exact pw_below_drewN h m
theorem R_flat_int {w : World} {base : Nat} {ok ok' : Nat → Prop} {v : Value} {xs : List Int} (h : Kd.R (Kd.int .i64) 3 w base ok v xs) (hok : ∀ k, v.ownBlock = some k → ok k → ok' k) : Kd.R (Kd.int .i64) 3 w base ok' v xs :=
  ⟨fun k hk => hok k hk (h.1 k hk), h.2.imp_ (fun _ _ hp => hp)⟩
theorem R_own_reads {w : World} {base : Nat} {ok : Nat → Prop} {A : Option Addr} {c : Nat} {xs : List Int} (h : Kd.R (Kd.int .i64) 3 w base ok (.slice A xs.length c) xs) : xs.length ≤ c ∧ Kd.C (Kd.int .i64) w A xs.length xs := by
  obtain ⟨A', c', e, hl, hC⟩ := Kd.R_reads h
  cases e
  exact ⟨hl, hC⟩
theorem not26 : ∀ q, q ∈ (3 : Nat) :: (Kd.int .i64).E → q ≠ 26 := by
  intro q hq
  simp [Kd.int, Kd.scalar] at hq
  omega
theorem R_set26 {w : World} {base : Nat} {ok : Nat → Prop} {v : Value} {xs : List Int} (h : Kd.R (Kd.int .i64) 3 w base ok v xs) {g : Nat} {cells : Array Value} (hb : w.heap[g]? = some (.cells cells 26 (0, 0))) (j : Nat) (u : Value) : Kd.R (Kd.int .i64) 3 (w.setCell ⟨g, j, none⟩ u) base ok v xs :=
  Kd.R_set h hb not26 j u
theorem R_set7 {w : World} {g base : Nat} {ok : Nat → Prop} {v : Value} {xs : List Int} {a0 a1 a2 a3 a4 a5 a6 : Value} (h : w.heap[g]? = some (.cells #[a0, a1, a2, a3, a4, a5, a6] 26 (0, 0))) (r : Kd.R (Kd.int .i64) 3 w base ok v xs) (b0 b1 b2 b3 b4 b5 b6 : Value) :
    Kd.R (Kd.int .i64) 3 (((((((w.setCell ⟨g, 0, none⟩ b0).setCell ⟨g, 1, none⟩ b1).setCell ⟨g, 2, none⟩ b2).setCell ⟨g, 3, none⟩ b3).setCell ⟨g, 4, none⟩ b4).setCell ⟨g, 5, none⟩ b5).setCell ⟨g, 6, none⟩ b6) base ok v xs := by
  have r0 := R_set26 r h 0 b0
  have h0 : (w.setCell ⟨g, 0, none⟩ b0).heap[g]? = some (.cells #[b0, a1, a2, a3, a4, a5, a6] 26 (0, 0)) := blk_put (cs := #[a0, a1, a2, a3, a4, a5, a6]) (cs' := #[b0, a1, a2, a3, a4, a5, a6]) h 0 b0 rfl
  generalize w.setCell ⟨g, 0, none⟩ b0 = W0 at h0 r0 ⊢
  have r1 := R_set26 r0 h0 1 b1
  have h1 : (W0.setCell ⟨g, 1, none⟩ b1).heap[g]? = some (.cells #[b0, b1, a2, a3, a4, a5, a6] 26 (0, 0)) := blk_put (cs := #[b0, a1, a2, a3, a4, a5, a6]) (cs' := #[b0, b1, a2, a3, a4, a5, a6]) h0 1 b1 rfl
  generalize W0.setCell ⟨g, 1, none⟩ b1 = W1 at h1 r1 ⊢
  have r2 := R_set26 r1 h1 2 b2
  have h2 : (W1.setCell ⟨g, 2, none⟩ b2).heap[g]? = some (.cells #[b0, b1, b2, a3, a4, a5, a6] 26 (0, 0)) := blk_put (cs := #[b0, b1, a2, a3, a4, a5, a6]) (cs' := #[b0, b1, b2, a3, a4, a5, a6]) h1 2 b2 rfl
  generalize W1.setCell ⟨g, 2, none⟩ b2 = W2 at h2 r2 ⊢
  have r3 := R_set26 r2 h2 3 b3
  have h3 : (W2.setCell ⟨g, 3, none⟩ b3).heap[g]? = some (.cells #[b0, b1, b2, b3, a4, a5, a6] 26 (0, 0)) := blk_put (cs := #[b0, b1, b2, a3, a4, a5, a6]) (cs' := #[b0, b1, b2, b3, a4, a5, a6]) h2 3 b3 rfl
  generalize W2.setCell ⟨g, 3, none⟩ b3 = W3 at h3 r3 ⊢
  have r4 := R_set26 r3 h3 4 b4
  have h4 : (W3.setCell ⟨g, 4, none⟩ b4).heap[g]? = some (.cells #[b0, b1, b2, b3, b4, a5, a6] 26 (0, 0)) := blk_put (cs := #[b0, b1, b2, b3, a4, a5, a6]) (cs' := #[b0, b1, b2, b3, b4, a5, a6]) h3 4 b4 rfl
  generalize W3.setCell ⟨g, 4, none⟩ b4 = W4 at h4 r4 ⊢
  have r5 := R_set26 r4 h4 5 b5
  have h5 : (W4.setCell ⟨g, 5, none⟩ b5).heap[g]? = some (.cells #[b0, b1, b2, b3, b4, b5, a6] 26 (0, 0)) := blk_put (cs := #[b0, b1, b2, b3, b4, a5, a6]) (cs' := #[b0, b1, b2, b3, b4, b5, a6]) h4 5 b5 rfl
  generalize W4.setCell ⟨g, 5, none⟩ b5 = W5 at h5 r5 ⊢
  have r6 := R_set26 r5 h5 6 b6
  have h6 : (W5.setCell ⟨g, 6, none⟩ b6).heap[g]? = some (.cells #[b0, b1, b2, b3, b4, b5, b6] 26 (0, 0)) := blk_put (cs := #[b0, b1, b2, b3, b4, b5, a6]) (cs' := #[b0, b1, b2, b3, b4, b5, b6]) h5 6 b6 rfl
  generalize W5.setCell ⟨g, 6, none⟩ b6 = W6 at h6 r6 ⊢
  exact r6
abbrev OldR := Int × Bool × Int × List Int × List Int × Bool × Bool × Bool
def impl_OldFrom.z : OldR := (0, false, 0, ([] : List Int), ([] : List Int), false, false, false)
def impl_OldFrom.t2 (k : Nat) (l0 : List Int) (o : Int) (td : Bool) (tm : Int) (q1 : Bool) (key : List Int) (rest : List Int) : Option OldR :=
  (impl_oldPartFrom.f rest).bind fun p => if p.2.2.2 = true then (if p.2.2.1.length = 0 then
     (impl_OldValid.f k o td tm key p.2.1 q1 (!p.1)).bind fun v => if v = true then (impl_Old_bytesOf.f k o td tm key p.2.1 q1 (!p.1)).bind fun bs => (slices_Equal_int_int.f k bs l0).bind fun e => if e = true then some (o, td, tm, key, p.2.1, q1, !p.1, true) else some impl_OldFrom.z else some impl_OldFrom.z
   else some impl_OldFrom.z) else some impl_OldFrom.z
def impl_OldFrom.t1 (k : Nat) (l0 : List Int) (o : Int) (td : Bool) (tm : Int) (rest : List Int) : Option OldR :=
  (impl_oldPartFrom.f rest).bind fun p => if p.2.2.2 = true then impl_OldFrom.t2 k l0 o td tm p.1 p.2.1 p.2.2.1 else some impl_OldFrom.z
def impl_OldFrom.t0 (k : Nat) (l0 : List Int) : Option OldR :=
  (impl_intAt.f k l0 0 3).bind fun p => if rd l0 5 = 1 then (impl_intAt.f k l0 6 3).bind fun q => if q.2 = true then (if 9 ≤ (l0.length : Int) then impl_OldFrom.t1 k l0 p.1 true q.1 (l0.drop 9) else none) else some impl_OldFrom.z else impl_OldFrom.t1 k l0 p.1 false 0 (l0.drop 6)
def impl_OldFrom.f (k : Nat) (l0 : List Int) : Option OldR :=
  (impl_allBytes.f k l0).bind fun t => if t = true then (if (l0.length : Int) < 6 then some impl_OldFrom.z else if rd l0 5 > 1 then some impl_OldFrom.z else impl_OldFrom.t0 k l0) else some impl_OldFrom.z
theorem impl_OldFrom.mono : ∀ a0 k, LeO (impl_OldFrom.f k a0) (impl_OldFrom.f (k + 1) a0) := by
  intro a0 k
  unfold impl_OldFrom.f impl_OldFrom.t0 impl_OldFrom.t1 impl_OldFrom.t2
  repeat' first
      | (with_reducible exact impl_allBytes.mono _ _)
      | (with_reducible exact impl_intAt.mono _ _ _ _)
      | (with_reducible exact impl_OldValid.mono _ _ _ _ _ _ _ _)
      | (with_reducible exact impl_Old_bytesOf.mono _ _ _ _ _ _ _ _)
      | (with_reducible exact slices_Equal_int_int.mono _ _ _)
      | (with_reducible exact LeO.refl _)
      | (with_reducible exact LeO.none _)
      | (with_reducible refine LeO.ite ?_ ?_)
      | (with_reducible refine LeO.bind ?_ (fun _ => ?_))
set_option maxHeartbeats 1600000 in
set_option maxRecDepth 100000 in
theorem impl_OldFrom.calls (k : Nat) (A0 : Option Addr) (c0 : Nat) (l0 : List Int) (r1 : Int) (r2 : Bool) (r3 : Int) (r4 : List Int) (r5 : List Int) (r6 : Bool) (r7 : Bool) (r8 : Bool) (w : World) (hr0 : Kd.C (Kd.int .i64) w A0 l0.length l0) (hc0 : l0.length ≤ c0) (h : impl_OldFrom.f k l0 = some (r1, r2, r3, r4, r5, r6, r7, r8)) :
    Calls Try.prog 16 #[.slice A0 l0.length c0] w fun e w' => ∃ v3_ v4_ : Value, e = .returned (.tuple #[.agg #[.int .i64 r1, .bool r2, .int .i64 r3, v3_, v4_, .bool r6, .bool r7], .bool r8]) ∧ Kd.R (Kd.int .i64) 3 w' w.heap.size (fun k_ => some k_ ≠ (v4_ : Value).ownBlock) v3_ r4 ∧ Kd.R (Kd.int .i64) 3 w' w.heap.size (fun k_ => some k_ ≠ (v3_ : Value).ownBlock) v4_ r5 ∧ Below w.heap.size w w' := by
  have hu26 := Try.underlying26
  have HR0 := Aside0.mk hr0
  have HC0 := Aside0.mk hc0
  have HB := Aside0.mk (Below.refl w.heap.size w)
  obtain ⟨t, A1_, H⟩ := Option.bind_eq_some_iff.mp h
  have A1 := Aside0.mk A1_
  have H1 := Aside0.mk H
  clear hr0 hc0 h A1_ H
  go_enter Try.func16, Try.ntmps16
  go_upto_region 1 with (first | ((with_reducible refine gate_dst (N := 2) rfl ?_); (try (refine gate_guard (by rfl) ?_; dsimp only)); refine box_event ?hg (N := 2) ?hd (cs := #[.int .i64 0, .bool false, .int .i64 0, .slice none 0 0, .slice none 0 0, .bool false, .bool false]) (t := 26) ?hr ?_; (case hd => rfl); (case hg => rfl); (case hr => first | (go_simp; done) | (go_simp; rfl)); intro g0 hg w3 hbox hb; have n0_ := Aside0.mk (below_step HB.out hb); have BK0 := Aside0.mk (hbox); have GE0 := Aside0.mk ((by rw [hg]; exact (below_size HB.out)) : w.heap.size ≤ g0); clear HB; have HB := n0_; clear n0_ hb hbox hg))
  (try simp only [Act.put, List.setIfInBounds_toArray, List.set_cons_zero, List.set_cons_succ])
  go_cut [26] (fun v26 wc => ∃ b : Bool, v26 = .bool b ∧ Aside0 ((b = true ∧ impl_OldFrom.z = (r1, r2, r3, r4, r5, r6, r7, r8)) ∨ (b = false ∧ impl_OldFrom.t0 k l0 = some (r1, r2, r3, r4, r5, r6, r7, r8) ∧ 6 ≤ (l0.length : Int) ∧ rd l0 5 ≤ 1)) ∧ Aside0 (wc.heap[g0]? = some (.cells #[.int .i64 0, .bool false, .int .i64 0, .slice none 0 0, .slice none 0 0, .bool false, .bool false] 26 (0, 0))) ∧ Aside0 (Below w.heap.size w wc))
  case first =>
    have H := H1.out
    clear H1
    cases t with
    | false =>
      have H' := Aside0.mk (show impl_OldFrom.z = (r1, r2, r3, r4, r5, r6, r7, r8) by simpa using H)
      clear H
      go_wp2_with (go_at_call 50; refine (impl_allBytes.calls k _ _ l0 false _ (Kd.C_below HR0.out HB.out) HC0.out A1.out).mono ?_; rintro e w' ⟨rfl, ⟨nd, rfl⟩⟩)
      go_meet
      case rel => exact ⟨true, by first | rfl | (simp; done), ⟨.inl ⟨rfl, H'.out⟩⟩, ⟨blk_drewN BK0.out _⟩, ⟨pw_below_drewN HB.out _⟩⟩
    | true =>
      rw [if_pos rfl] at H
      by_cases c1 : (l0.length : Int) < 6
      · rw [if_pos c1] at H
        have H' := Aside0.mk (show impl_OldFrom.z = (r1, r2, r3, r4, r5, r6, r7, r8) by simpa using H)
        have d1 : decide ((l0.length : Int) < 6) = true := decide_eq_true c1
        clear H
        go_wp2_with (go_at_call 50; refine (impl_allBytes.calls k _ _ l0 true _ (Kd.C_below HR0.out HB.out) HC0.out A1.out).mono ?_; rintro e w' ⟨rfl, ⟨nd, rfl⟩⟩)
        go_meet
        case rel => exact ⟨true, by first | rfl | (simp; done) | (simp [*]; done), ⟨.inl ⟨rfl, H'.out⟩⟩, ⟨blk_drewN BK0.out _⟩, ⟨pw_below_drewN HB.out _⟩⟩
      · rw [if_neg c1] at H
        have d1 : decide ((l0.length : Int) < 6) = false := decide_eq_false c1
        obtain ⟨ad, e1, hx0⟩ := Kd.at_int (Kd.C_below HR0.out HB.out) 5 (by decide) (by omega)
        have x5 : w3.cell? (ad.add 5) = some (.int .i64 (rd l0 5)) := hx0
        have z1 : (5 < (l0.length : Int)) = True := eq_true (by omega)
        cases e1
        clear hx0
        generalize hv : rd l0 5 = v at *
        by_cases c2 : v > 1
        · rw [if_pos c2] at H
          have H' := Aside0.mk (show impl_OldFrom.z = (r1, r2, r3, r4, r5, r6, r7, r8) by simpa using H)
          clear H
          have d2 : decide (v > 1) = true := decide_eq_true c2
          go_wp2_with (go_at_call 50; refine (impl_allBytes.calls k _ _ l0 true _ (Kd.C_below HR0.out HB.out) HC0.out A1.out).mono ?_; rintro e w' ⟨rfl, ⟨nd, rfl⟩⟩; have x5d : (w3.drewN nd).cell? (ad.add 5) = some (.int .i64 v) := x5; simp [Addr.add] at x5d)
          go_meet
          case rel => exact ⟨true, by first | rfl | (simp; done) | (simp [*]; done), ⟨.inl ⟨rfl, H'.out⟩⟩, ⟨blk_drewN BK0.out _⟩, ⟨pw_below_drewN HB.out _⟩⟩
        · rw [if_neg c2] at H
          have H' := Aside0.mk H
          clear H
          have d2 : decide (v > 1) = false := decide_eq_false c2
          go_wp2_with (go_at_call 50; refine (impl_allBytes.calls k _ _ l0 true _ (Kd.C_below HR0.out HB.out) HC0.out A1.out).mono ?_; rintro e w' ⟨rfl, ⟨nd, rfl⟩⟩; have x5d : (w3.drewN nd).cell? (ad.add 5) = some (.int .i64 v) := x5; simp [Addr.add] at x5d)
          go_meet
          case rel => exact ⟨false, by first | rfl | (simp; done) | (simp [*]; done), ⟨.inr ⟨rfl, H'.out, by omega, by omega⟩⟩, ⟨blk_drewN BK0.out _⟩, ⟨pw_below_drewN HB.out _⟩⟩
  case rest =>
    obtain ⟨b, rfl, HA, BK0, HB⟩ := hcut
    rcases HA.out with ⟨rfl, hz⟩ | ⟨rfl, H, c6, c5⟩
    · clear HA H1 A1
      simp only [impl_OldFrom.z, Prod.mk.injEq] at hz
      obtain ⟨rfl, rfl, rfl, rfl, rfl, rfl, rfl, rfl⟩ := hz
      have hz_0 := (blk_cell BK0.out 0).trans (show _ = some (Value.int .i64 0) from rfl)
      have hz_1 := (blk_cell BK0.out 1).trans (show _ = some (Value.bool false) from rfl)
      have hz_2 := (blk_cell BK0.out 2).trans (show _ = some (Value.int .i64 0) from rfl)
      have hz_3 := (blk_cell BK0.out 3).trans (show _ = some (Value.slice none 0 0) from rfl)
      have hz_4 := (blk_cell BK0.out 4).trans (show _ = some (Value.slice none 0 0) from rfl)
      have hz_5 := (blk_cell BK0.out 5).trans (show _ = some (Value.bool false) from rfl)
      have hz_6 := (blk_cell BK0.out 6).trans (show _ = some (Value.bool false) from rfl)
      have hf_0 := blk_frozen BK0.out 0
      have hf_1 := blk_frozen BK0.out 1
      have hf_2 := blk_frozen BK0.out 2
      have hf_3 := blk_frozen BK0.out 3
      have hf_4 := blk_frozen BK0.out 4
      have hf_5 := blk_frozen BK0.out 5
      have hf_6 := blk_frozen BK0.out 6
      go_wp2
      refine of_end g0 _ false rfl rfl rfl (old_set7 BK0.out _ _ _ _ _ _ _) ?_
      exact ⟨_, _, rfl, Kd.R_nil _ _ _ _ _, Kd.R_nil _ _ _ _ _, by with_reducible exact below_set (below_set (below_set (below_set (below_set (below_set (below_set HB.out GE0.out) GE0.out) GE0.out) GE0.out) GE0.out) GE0.out) GE0.out⟩
    clear HA H1 A1
    obtain ⟨⟨o, okO⟩, A2_, H⟩ := Option.bind_eq_some_iff.mp H
    dsimp only at H
    have A2 := Aside0.mk A2_
    have H2 := Aside0.mk H
    clear A2_ H
    obtain ⟨A6, k6, rs6, hrs6, hcut6, hC6, hk6⟩ := cut_drop A0 c0 l0 6 (by decide) (by omega) HC0.out
    have HC6 := Aside0.mk (hC6 w HR0.out)
    have HK6 := Aside0.mk hk6
    have HRS6 := Aside0.mk hrs6
    have LL := Aside0.mk (show 6 ≤ (l0.length : Int) ∧ rd l0 5 ≤ 1 from ⟨c6, c5⟩)
    clear hrs6 hC6 hk6 c6 c5
    go_upto_region 4 with (first | ((with_reducible refine gate_dst (N := 4) rfl ?_); (try (refine gate_guard (by rfl) ?_; dsimp only)); refine box_event ?hg (N := 4) ?hd (cs := #[.int .i64 0, .bool false, .int .i64 0, .slice none 0 0, .slice none 0 0, .bool false, .bool false]) (t := 26) ?hr ?_; (case hd => rfl); (case hg => rfl); (case hr => first | (go_simp; done) | (go_simp; rfl)); intro g1 hg w4 hbox hb; have BK1 := Aside0.mk (hbox); have GE1 := Aside0.mk ((by rw [hg]; exact (below_size HB.out)) : w.heap.size ≤ g1); have NB := Aside0.mk (show g0 ≠ g1 by rw [hg]; exact Nat.ne_of_lt (blk_lt BK0.out)); have n1_ := Aside0.mk (blk_below BK0.out hb); have n0_ := Aside0.mk (below_step HB.out hb); clear HB BK0; have HB := n0_; have BK0 := n1_; clear n0_ n1_ hb hbox hg))
    (try simp only [Act.put, List.setIfInBounds_toArray, List.set_cons_zero, List.set_cons_succ])
    go_upto_region 5 with (go_at_call 51; refine (impl_intAt.calls k _ _ l0 0 3 o okO _ (Kd.C_below HR0.out HB.out) HC0.out A2.out).mono ?_; rintro e w5 ⟨rfl, hd⟩; have n0_ := Aside0.mk (drawn_below HB.out hd); have n1_ := Aside0.mk (drawn_blk BK0.out hd); have n2_ := Aside0.mk (drawn_blk BK1.out hd); clear HB BK0 BK1; have HB := n0_; have BK0 := n1_; have BK1 := n2_; clear n0_ n1_ n2_ hd; have hz0 := (blk_cell BK1.out 0).trans (show _ = some (Value.int .i64 0) from rfl); have hf0 := blk_frozen BK1.out 0)
    have n0_ := Aside0.mk (below_set (j := 0) (v := .int .i64 o) HB.out GE1.out)
    have n1_ := Aside0.mk (blk_far (p := ⟨g1, 0, none⟩) BK0.out NB.out (.int .i64 o))
    have n2_ := Aside0.mk (blk_put (cs' := #[.int .i64 o, .bool false, .int .i64 0, .slice none 0 0, .slice none 0 0, .bool false, .bool false]) BK1.out 0 (.int .i64 o) rfl)
    clear hz0 hf0 A2 HB BK0 BK1
    generalize w5.setCell { block := g1, off := 0 } (Value.int .i64 o) = w6 at n0_ n1_ n2_ ⊢
    have HB := n0_
    have BK0 := n1_
    have BK1 := n2_
    clear n0_ n1_ n2_
    obtain ⟨c6, c5⟩ := LL.out
    obtain ⟨ad, e1, hx0⟩ := Kd.at_int (Kd.C_below HR0.out HB.out) 5 (by decide) (by omega)
    have x5 : w6.cell? (ad.add 5) = some (.int .i64 (rd l0 5)) := hx0
    have z1 : (5 < (l0.length : Int)) = True := eq_true (by omega)
    simp [Addr.add] at x5
    cases e1
    clear hx0 c5 LL
    go_upto_if 39 with fail
    go_cut [5] (fun v5 wc => ∃ (A : Option Addr) (c : Nat) (rs : List Int) (td : Bool) (tm : Int), v5 = .slice A rs.length c ∧ Aside0 (impl_OldFrom.t1 k l0 o td tm rs = some (r1, r2, r3, r4, r5, r6, r7, r8)) ∧ Aside0 (Kd.C (Kd.int .i64) w A rs.length rs ∧ rs.length ≤ c) ∧ Aside0 (wc.heap[g0]? = some (.cells #[.int .i64 0, .bool false, .int .i64 0, .slice none 0 0, .slice none 0 0, .bool false, .bool false] 26 (0, 0))) ∧ Aside0 (wc.heap[g1]? = some (.cells #[.int .i64 o, .bool td, .int .i64 tm, .slice none 0 0, .slice none 0 0, .bool false, .bool false] 26 (0, 0))) ∧ Aside0 (Below w.heap.size w wc))
    case first =>
      have H := H2.out
      clear H2
      by_cases c1 : rd l0 5 = 1
      · rw [if_pos c1] at H
        have c1b : (rd l0 5 == 1) = true := by simpa using c1
        rw [c1b]
        clear c1 x5
        obtain ⟨⟨tm, okT⟩, A3_, H⟩ := Option.bind_eq_some_iff.mp H
        have A3 := Aside0.mk A3_
        clear A3_
        dsimp only at H
        cases okT with
        | false =>
          have hz : impl_OldFrom.z = (r1, r2, r3, r4, r5, r6, r7, r8) := by simpa using H
          clear H
          go_upto_region 9 with (go_at_call 51; refine (impl_intAt.calls k _ _ l0 6 3 tm false _ (Kd.C_below HR0.out HB.out) HC0.out A3.out).mono ?_; rintro e w7 ⟨rfl, hd⟩; have n0_ := Aside0.mk (drawn_below HB.out hd); have n1_ := Aside0.mk (drawn_blk BK0.out hd); clear HB BK0 BK1; have HB := n0_; have BK0 := n1_; clear n0_ n1_ hd)
          simp only [impl_OldFrom.z, Prod.mk.injEq] at hz
          obtain ⟨rfl, rfl, rfl, rfl, rfl, rfl, rfl, rfl⟩ := hz
          have hz_0 := (blk_cell BK0.out 0).trans (show _ = some (Value.int .i64 0) from rfl)
          have hz_1 := (blk_cell BK0.out 1).trans (show _ = some (Value.bool false) from rfl)
          have hz_2 := (blk_cell BK0.out 2).trans (show _ = some (Value.int .i64 0) from rfl)
          have hz_3 := (blk_cell BK0.out 3).trans (show _ = some (Value.slice none 0 0) from rfl)
          have hz_4 := (blk_cell BK0.out 4).trans (show _ = some (Value.slice none 0 0) from rfl)
          have hz_5 := (blk_cell BK0.out 5).trans (show _ = some (Value.bool false) from rfl)
          have hz_6 := (blk_cell BK0.out 6).trans (show _ = some (Value.bool false) from rfl)
          have hf_0 := blk_frozen BK0.out 0
          have hf_1 := blk_frozen BK0.out 1
          have hf_2 := blk_frozen BK0.out 2
          have hf_3 := blk_frozen BK0.out 3
          have hf_4 := blk_frozen BK0.out 4
          have hf_5 := blk_frozen BK0.out 5
          have hf_6 := blk_frozen BK0.out 6
          go_wp2
          refine of_end g0 _ false rfl rfl rfl (old_set7 BK0.out _ _ _ _ _ _ _) ?_
          exact ⟨_, _, rfl, Kd.R_nil _ _ _ _ _, Kd.R_nil _ _ _ _ _, by with_reducible exact below_set (below_set (below_set (below_set (below_set (below_set (below_set HB.out GE0.out) GE0.out) GE0.out) GE0.out) GE0.out) GE0.out) GE0.out⟩
        | true =>
          rw [if_pos rfl] at H
          by_cases c9 : 9 ≤ (l0.length : Int)
          · rw [if_pos c9] at H
            obtain ⟨A9, k9, rs9, hrs9, hcut9, hC9, hk9⟩ := cut_drop (some ad) c0 l0 9 (by decide) (by omega) HC0.out
            have hC9' := hC9 w HR0.out
            rw [show (9 : Int).toNat = 9 from rfl] at hrs9
            rw [← hrs9] at H
            have H' := Aside0.mk H
            have HC9 := Aside0.mk (And.intro hC9' hk9)
            clear H hrs9 hC9 hC9' hk9 hcut6
            go_upto_region 10 with (go_at_call 51; refine (impl_intAt.calls k _ _ l0 6 3 tm true _ (Kd.C_below HR0.out HB.out) HC0.out A3.out).mono ?_; rintro e w7 ⟨rfl, hd⟩; have n0_ := Aside0.mk (drawn_below HB.out hd); have n1_ := Aside0.mk (drawn_blk BK0.out hd); have n2_ := Aside0.mk (drawn_blk BK1.out hd); clear HB BK0 BK1; have HB := n0_; have BK0 := n1_; have BK1 := n2_; clear n0_ n1_ n2_ hd; have hz1 := (blk_cell BK1.out 1).trans (show _ = some (Value.bool false) from rfl); have hf1 := blk_frozen BK1.out 1; have hz2 := (blk_cell BK1.out 2).trans (show _ = some (Value.int .i64 0) from rfl); have hf2 := blk_frozen BK1.out 2)
            have n0_ := Aside0.mk (below_set (j := 2) (v := .int .i64 tm) (below_set (j := 1) (v := .bool true) HB.out GE1.out) GE1.out)
            have n1_ := Aside0.mk (blk_far (p := ⟨g1, 2, none⟩) (blk_far (p := ⟨g1, 1, none⟩) BK0.out NB.out (.bool true)) NB.out (.int .i64 tm))
            have n2_ := Aside0.mk (blk_put (cs' := #[.int .i64 o, .bool true, .int .i64 tm, .slice none 0 0, .slice none 0 0, .bool false, .bool false]) (blk_put (cs' := #[.int .i64 o, .bool true, .int .i64 0, .slice none 0 0, .slice none 0 0, .bool false, .bool false]) BK1.out 1 (.bool true) rfl) 2 (.int .i64 tm) rfl)
            go_wp2
            go_meet
            case rel => exact ⟨A9, k9, rs9, true, tm, rfl, H', HC9, n1_, n2_, n0_⟩
          · rw [if_neg c9] at H
            exact absurd H (by simp)
      · rw [if_neg c1] at H
        have c1b : (rd l0 5 == 1) = false := by simpa using c1
        rw [c1b]
        have hr6 := HRS6.out
        rw [show (6 : Int).toNat = 6 from rfl] at hr6
        rw [← hr6] at H
        have H' := Aside0.mk H
        clear H c1 hr6 x5
        go_wp2
        go_meet
        case rel => exact ⟨A6, k6, rs6, false, 0, rfl, H', ⟨HC6.out, HK6.out⟩, BK0, BK1, HB⟩
    case rest =>
      clear H2 HC6 HK6 HRS6 hcut6 x5
      obtain ⟨A, c, rs, td, tm, rfl, HA, HC5, BK0, BK1, HB⟩ := hcut
      obtain ⟨⟨q1, key, rs2, ok1⟩, P1_, H⟩ := Option.bind_eq_some_iff.mp HA.out
      dsimp only at H
      have P1 := Aside0.mk P1_
      clear HA P1_
      cases ok1 with
      | false =>
        have hz : impl_OldFrom.z = (r1, r2, r3, r4, r5, r6, r7, r8) := by simpa using H
        clear H
        go_upto_region 14 with (go_at_call 52; refine (oldPartFrom_calls A c rs q1 key rs2 false _ (Kd.C_below HC5.out.1 HB.out) HC5.out.2 P1.out).mono ?_; rintro e w7 ⟨v2, A3, c3, rfl, ho, hC, hc, hb⟩; have n0_ := Aside0.mk (below_step HB.out hb); have n1_ := Aside0.mk (blk_below BK0.out hb); have n2_ := Aside0.mk (blk_below BK1.out hb); clear HB BK0 BK1; have HB := n0_; have BK0 := n1_; have BK1 := n2_; clear n0_ n1_ n2_; clear ho hC hc hb)
        simp only [impl_OldFrom.z, Prod.mk.injEq] at hz
        obtain ⟨rfl, rfl, rfl, rfl, rfl, rfl, rfl, rfl⟩ := hz
        have hz_0 := (blk_cell BK0.out 0).trans (show _ = some (Value.int .i64 0) from rfl)
        have hz_1 := (blk_cell BK0.out 1).trans (show _ = some (Value.bool false) from rfl)
        have hz_2 := (blk_cell BK0.out 2).trans (show _ = some (Value.int .i64 0) from rfl)
        have hz_3 := (blk_cell BK0.out 3).trans (show _ = some (Value.slice none 0 0) from rfl)
        have hz_4 := (blk_cell BK0.out 4).trans (show _ = some (Value.slice none 0 0) from rfl)
        have hz_5 := (blk_cell BK0.out 5).trans (show _ = some (Value.bool false) from rfl)
        have hz_6 := (blk_cell BK0.out 6).trans (show _ = some (Value.bool false) from rfl)
        have hf_0 := blk_frozen BK0.out 0
        have hf_1 := blk_frozen BK0.out 1
        have hf_2 := blk_frozen BK0.out 2
        have hf_3 := blk_frozen BK0.out 3
        have hf_4 := blk_frozen BK0.out 4
        have hf_5 := blk_frozen BK0.out 5
        have hf_6 := blk_frozen BK0.out 6
        go_wp2
        refine of_end g0 _ false rfl rfl rfl (old_set7 BK0.out _ _ _ _ _ _ _) ?_
        exact ⟨_, _, rfl, Kd.R_nil _ _ _ _ _, Kd.R_nil _ _ _ _ _, by with_reducible exact below_set (below_set (below_set (below_set (below_set (below_set (below_set HB.out GE0.out) GE0.out) GE0.out) GE0.out) GE0.out) GE0.out) GE0.out⟩
      | true =>
        rw [if_pos rfl] at H
        obtain ⟨⟨q2, val, rs3, ok2⟩, P2_, H⟩ := Option.bind_eq_some_iff.mp H
        dsimp only at H
        have P2 := Aside0.mk P2_
        have H2 := Aside0.mk H
        clear P2_ H
        go_upto_region 15 with (go_at_call 52; refine (oldPartFrom_calls A c rs q1 key rs2 true _ (Kd.C_below HC5.out.1 HB.out) HC5.out.2 P1.out).mono ?_; rintro e w7 ⟨v2, A3, c3, rfl, ho, hC, hc, hb⟩; have HC3 := Aside0.mk (And.intro (Kd.C_below hC hb) hc); have HO1 := Aside0.mk (Kd.R_lower ho (below_size HB.out)); have n0_ := Aside0.mk (below_step HB.out hb); have n1_ := Aside0.mk (blk_below BK0.out hb); have n2_ := Aside0.mk (blk_below BK1.out hb); clear HB BK0 BK1; have HB := n0_; have BK0 := n1_; have BK1 := n2_; clear n0_ n1_ n2_; clear ho hC hc hb; obtain ⟨Ak, ck, rfl, hlk, hCk⟩ := Kd.R_reads HO1.out; clear hlk hCk)
        go_upto_region 16 with (go_at_call 52; refine (oldPartFrom_calls A3 c3 rs2 q2 val rs3 ok2 _ HC3.out.1 HC3.out.2 P2.out).mono ?_; rintro e w8 ⟨v4, A4, c4, rfl, ho, hC, hc, hb⟩; have HO2_ := Aside0.mk (Kd.R_mono (ok' := fun k_ => some k_ ≠ (Value.slice Ak key.length ck).ownBlock) (Kd.R_lower (Kd.R_new ho (Kd.R_own HO1.out).choose_spec) (below_size HB.out)) (fun _ hk => hk.2)); have HO1_ := Aside0.mk (R_flat_int (ok' := fun k_ => some k_ ≠ v4.ownBlock) (Kd.R_below HO1.out hb) (fun k hk _ he => (HO2_.out.1 k he.symm) hk.symm)); have n0_ := Aside0.mk (below_step HB.out hb); have n1_ := Aside0.mk (blk_below BK0.out hb); have n2_ := Aside0.mk (blk_below BK1.out hb); clear HB BK0 BK1; have HB := n0_; have BK0 := n1_; have BK1 := n2_; clear n0_ n1_ n2_; clear HC3 ho hC hc hb; have HO3 := HO1_; have HO4 := HO2_; clear HO1_ HO2_; obtain ⟨Av, cv, rfl, hlv, hCv⟩ := Kd.R_reads HO4.out; clear hlv hCv)
        cases ok2 with
        | false =>
          have hz : impl_OldFrom.z = (r1, r2, r3, r4, r5, r6, r7, r8) := by simpa using H2.out
          clear H2 HO1
          go_upto_region 17 with fail
          simp only [impl_OldFrom.z, Prod.mk.injEq] at hz
          obtain ⟨rfl, rfl, rfl, rfl, rfl, rfl, rfl, rfl⟩ := hz
          have hz_0 := (blk_cell BK0.out 0).trans (show _ = some (Value.int .i64 0) from rfl)
          have hz_1 := (blk_cell BK0.out 1).trans (show _ = some (Value.bool false) from rfl)
          have hz_2 := (blk_cell BK0.out 2).trans (show _ = some (Value.int .i64 0) from rfl)
          have hz_3 := (blk_cell BK0.out 3).trans (show _ = some (Value.slice none 0 0) from rfl)
          have hz_4 := (blk_cell BK0.out 4).trans (show _ = some (Value.slice none 0 0) from rfl)
          have hz_5 := (blk_cell BK0.out 5).trans (show _ = some (Value.bool false) from rfl)
          have hz_6 := (blk_cell BK0.out 6).trans (show _ = some (Value.bool false) from rfl)
          have hf_0 := blk_frozen BK0.out 0
          have hf_1 := blk_frozen BK0.out 1
          have hf_2 := blk_frozen BK0.out 2
          have hf_3 := blk_frozen BK0.out 3
          have hf_4 := blk_frozen BK0.out 4
          have hf_5 := blk_frozen BK0.out 5
          have hf_6 := blk_frozen BK0.out 6
          go_wp2
          refine of_end g0 _ false rfl rfl rfl (old_set7 BK0.out _ _ _ _ _ _ _) ?_
          exact ⟨_, _, rfl, Kd.R_nil _ _ _ _ _, Kd.R_nil _ _ _ _ _, by with_reducible exact below_set (below_set (below_set (below_set (below_set (below_set (below_set HB.out GE0.out) GE0.out) GE0.out) GE0.out) GE0.out) GE0.out) GE0.out⟩
        | true =>
          have H := H2.out
          rw [if_pos rfl] at H
          clear H2 HO1
          by_cases c3 : rs3.length = 0
          · rw [if_pos c3] at H
            have d3 : decide ((0 : Int) < (rs3.length : Int)) = false := decide_eq_false (by omega)
            have d4 : decide (0 < rs3.length) = false := decide_eq_false (by omega)
            obtain ⟨v, V_, H⟩ := Option.bind_eq_some_iff.mp H
            have VV := Aside0.mk V_
            have H2 := Aside0.mk H
            clear V_ H
            have hm_0 := (blk_cell BK1.out 0).trans (show _ = some (Value.int .i64 o) from rfl)
            have hm_1 := (blk_cell BK1.out 1).trans (show _ = some (Value.bool td) from rfl)
            have hm_2 := (blk_cell BK1.out 2).trans (show _ = some (Value.int .i64 tm) from rfl)
            have hm_3 := (blk_cell BK1.out 3).trans (show _ = some (Value.slice none 0 0) from rfl)
            have hm_4 := (blk_cell BK1.out 4).trans (show _ = some (Value.slice none 0 0) from rfl)
            have hm_5 := (blk_cell BK1.out 5).trans (show _ = some (Value.bool false) from rfl)
            have hm_6 := (blk_cell BK1.out 6).trans (show _ = some (Value.bool false) from rfl)
            have hg_0 := blk_frozen BK1.out 0
            have hg_1 := blk_frozen BK1.out 1
            have hg_2 := blk_frozen BK1.out 2
            have hg_3 := blk_frozen BK1.out 3
            have hg_4 := blk_frozen BK1.out 4
            have hg_5 := blk_frozen BK1.out 5
            have hg_6 := blk_frozen BK1.out 6
            go_upto_region 19 with fail
            clear hm_0 hg_0 hm_1 hg_1 hm_2 hg_2 hm_3 hg_3 hm_4 hg_4 hm_5 hg_5 hm_6 hg_6
            have ra0 := R_set26 HO3.out BK1.out 5 (.bool q1)
            have rb0 := R_set26 HO4.out BK1.out 5 (.bool q1)
            have z0_ := blk_far (p := ⟨g1, 5, none⟩) BK0.out NB.out (.bool q1)
            have y0_ := below_set (j := 5) (v := .bool q1) HB.out GE1.out
            have x0_ := blk_put (cs := #[.int .i64 o, .bool td, .int .i64 tm, .slice none 0 0, .slice none 0 0, .bool false, .bool false]) (cs' := #[.int .i64 o, .bool td, .int .i64 tm, .slice none 0 0, .slice none 0 0, .bool q1, .bool false]) BK1.out 5 (.bool q1) rfl
            generalize (w8.setCell ⟨g1, 5, none⟩ (.bool q1)) = V0 at ra0 rb0 z0_ y0_ x0_ ⊢
            have ra1 := R_set26 ra0 x0_ 3 (.slice Ak key.length ck)
            have rb1 := R_set26 rb0 x0_ 3 (.slice Ak key.length ck)
            have z1_ := blk_far (p := ⟨g1, 3, none⟩) z0_ NB.out (.slice Ak key.length ck)
            have y1_ := below_set (j := 3) (v := .slice Ak key.length ck) y0_ GE1.out
            have x1_ := blk_put (cs := #[.int .i64 o, .bool td, .int .i64 tm, .slice none 0 0, .slice none 0 0, .bool q1, .bool false]) (cs' := #[.int .i64 o, .bool td, .int .i64 tm, .slice Ak key.length ck, .slice none 0 0, .bool q1, .bool false]) x0_ 3 (.slice Ak key.length ck) rfl
            generalize (V0.setCell ⟨g1, 3, none⟩ (.slice Ak key.length ck)) = V1 at ra1 rb1 z1_ y1_ x1_ ⊢
            have ra2 := R_set26 ra1 x1_ 6 (.bool (!q2))
            have rb2 := R_set26 rb1 x1_ 6 (.bool (!q2))
            have z2_ := blk_far (p := ⟨g1, 6, none⟩) z1_ NB.out (.bool (!q2))
            have y2_ := below_set (j := 6) (v := .bool (!q2)) y1_ GE1.out
            have x2_ := blk_put (cs := #[.int .i64 o, .bool td, .int .i64 tm, .slice Ak key.length ck, .slice none 0 0, .bool q1, .bool false]) (cs' := #[.int .i64 o, .bool td, .int .i64 tm, .slice Ak key.length ck, .slice none 0 0, .bool q1, .bool (!q2)]) x1_ 6 (.bool (!q2)) rfl
            generalize (V1.setCell ⟨g1, 6, none⟩ (.bool (!q2))) = V2 at ra2 rb2 z2_ y2_ x2_ ⊢
            have ra3 := R_set26 ra2 x2_ 4 (.slice Av val.length cv)
            have rb3 := R_set26 rb2 x2_ 4 (.slice Av val.length cv)
            have z3_ := blk_far (p := ⟨g1, 4, none⟩) z2_ NB.out (.slice Av val.length cv)
            have y3_ := below_set (j := 4) (v := .slice Av val.length cv) y2_ GE1.out
            have x3_ := blk_put (cs := #[.int .i64 o, .bool td, .int .i64 tm, .slice Ak key.length ck, .slice none 0 0, .bool q1, .bool (!q2)]) (cs' := #[.int .i64 o, .bool td, .int .i64 tm, .slice Ak key.length ck, .slice Av val.length cv, .bool q1, .bool (!q2)]) x2_ 4 (.slice Av val.length cv) rfl
            generalize (V2.setCell ⟨g1, 4, none⟩ (.slice Av val.length cv)) = V3 at ra3 rb3 z3_ y3_ x3_ ⊢
            clear ra0 rb0 z0_ y0_ x0_ ra1 rb1 z1_ y1_ x1_ ra2 rb2 z2_ y2_ x2_ BK0 BK1 HB HO3 HO4 d3 d4 c3 P1 P2
            have BK0 := Aside0.mk z3_
            have BK1 := Aside0.mk x3_
            have HB := Aside0.mk y3_
            have HO3 := Aside0.mk ra3
            have HO4 := Aside0.mk rb3
            clear ra3 rb3 z3_ y3_ x3_
            have hm_0 := (blk_cell BK1.out 0).trans (show _ = some (Value.int .i64 o) from rfl)
            have hm_1 := (blk_cell BK1.out 1).trans (show _ = some (Value.bool td) from rfl)
            have hm_2 := (blk_cell BK1.out 2).trans (show _ = some (Value.int .i64 tm) from rfl)
            have hm_3 := (blk_cell BK1.out 3).trans (show _ = some (Value.slice Ak key.length ck) from rfl)
            have hm_4 := (blk_cell BK1.out 4).trans (show _ = some (Value.slice Av val.length cv) from rfl)
            have hm_5 := (blk_cell BK1.out 5).trans (show _ = some (Value.bool q1) from rfl)
            have hm_6 := (blk_cell BK1.out 6).trans (show _ = some (Value.bool (!q2)) from rfl)
            cases v with
            | false =>
              have hz : impl_OldFrom.z = (r1, r2, r3, r4, r5, r6, r7, r8) := by simpa using H2.out
              clear H2
              go_upto_region 20 with (go_at_call 20; refine (impl_OldValid.calls k o td tm Ak ck key Av cv val q1 (!q2) false _ (R_own_reads HO3.out).2 (R_own_reads HO3.out).1 (R_own_reads HO4.out).2 (R_own_reads HO4.out).1 VV.out).mono ?_; rintro e w9 ⟨rfl, hb⟩; have n0_ := Aside0.mk (below_step HB.out hb); have n1_ := Aside0.mk (blk_below BK0.out hb); have n2_ := Aside0.mk (blk_below BK1.out hb); have n3_ := Aside0.mk (Kd.R_below HO3.out hb); have n4_ := Aside0.mk (Kd.R_below HO4.out hb); clear HB BK0 BK1 HO3 HO4 hb; have HB := n0_; have BK0 := n1_; have BK1 := n2_; have HO3 := n3_; have HO4 := n4_; clear n0_ n1_ n2_ n3_ n4_; clear hm_0 hm_1 hm_2 hm_3 hm_4 hm_5 hm_6; have hm_0 := (blk_cell BK1.out 0).trans (show _ = some (Value.int .i64 o) from rfl); have hm_1 := (blk_cell BK1.out 1).trans (show _ = some (Value.bool td) from rfl); have hm_2 := (blk_cell BK1.out 2).trans (show _ = some (Value.int .i64 tm) from rfl); have hm_3 := (blk_cell BK1.out 3).trans (show _ = some (Value.slice Ak key.length ck) from rfl); have hm_4 := (blk_cell BK1.out 4).trans (show _ = some (Value.slice Av val.length cv) from rfl); have hm_5 := (blk_cell BK1.out 5).trans (show _ = some (Value.bool q1) from rfl); have hm_6 := (blk_cell BK1.out 6).trans (show _ = some (Value.bool (!q2)) from rfl))
              clear hm_0 hm_1 hm_2 hm_3 hm_4 hm_5 hm_6
              simp only [impl_OldFrom.z, Prod.mk.injEq] at hz
              obtain ⟨rfl, rfl, rfl, rfl, rfl, rfl, rfl, rfl⟩ := hz
              have hz_0 := (blk_cell BK0.out 0).trans (show _ = some (Value.int .i64 0) from rfl)
              have hz_1 := (blk_cell BK0.out 1).trans (show _ = some (Value.bool false) from rfl)
              have hz_2 := (blk_cell BK0.out 2).trans (show _ = some (Value.int .i64 0) from rfl)
              have hz_3 := (blk_cell BK0.out 3).trans (show _ = some (Value.slice none 0 0) from rfl)
              have hz_4 := (blk_cell BK0.out 4).trans (show _ = some (Value.slice none 0 0) from rfl)
              have hz_5 := (blk_cell BK0.out 5).trans (show _ = some (Value.bool false) from rfl)
              have hz_6 := (blk_cell BK0.out 6).trans (show _ = some (Value.bool false) from rfl)
              have hf_0 := blk_frozen BK0.out 0
              have hf_1 := blk_frozen BK0.out 1
              have hf_2 := blk_frozen BK0.out 2
              have hf_3 := blk_frozen BK0.out 3
              have hf_4 := blk_frozen BK0.out 4
              have hf_5 := blk_frozen BK0.out 5
              have hf_6 := blk_frozen BK0.out 6
              go_wp2
              refine of_end g0 _ false rfl rfl rfl (old_set7 BK0.out _ _ _ _ _ _ _) ?_
              exact ⟨_, _, rfl, Kd.R_nil _ _ _ _ _, Kd.R_nil _ _ _ _ _, by with_reducible exact below_set (below_set (below_set (below_set (below_set (below_set (below_set HB.out GE0.out) GE0.out) GE0.out) GE0.out) GE0.out) GE0.out) GE0.out⟩
            | true =>
              have H := H2.out
              rw [if_pos rfl] at H
              obtain ⟨bs, PB_, H⟩ := Option.bind_eq_some_iff.mp H
              obtain ⟨e, PE_, H⟩ := Option.bind_eq_some_iff.mp H
              have PB := Aside0.mk PB_
              have PE := Aside0.mk PE_
              clear H2 PB_ PE_
              cases e with
              | false =>
                have hz : impl_OldFrom.z = (r1, r2, r3, r4, r5, r6, r7, r8) := by simpa using H
                clear H
                go_upto_region 20 with (first | (go_at_call 20; refine (impl_OldValid.calls k o td tm Ak ck key Av cv val q1 (!q2) true _ (R_own_reads HO3.out).2 (R_own_reads HO3.out).1 (R_own_reads HO4.out).2 (R_own_reads HO4.out).1 VV.out).mono ?_; rintro e w9 ⟨rfl, hb⟩; have n0_ := Aside0.mk (below_step HB.out hb); have n1_ := Aside0.mk (blk_below BK0.out hb); have n2_ := Aside0.mk (blk_below BK1.out hb); have n3_ := Aside0.mk (Kd.R_below HO3.out hb); have n4_ := Aside0.mk (Kd.R_below HO4.out hb); clear HB BK0 BK1 HO3 HO4 hb; have HB := n0_; have BK0 := n1_; have BK1 := n2_; have HO3 := n3_; have HO4 := n4_; clear n0_ n1_ n2_ n3_ n4_; clear hm_0 hm_1 hm_2 hm_3 hm_4 hm_5 hm_6; have hm_0 := (blk_cell BK1.out 0).trans (show _ = some (Value.int .i64 o) from rfl); have hm_1 := (blk_cell BK1.out 1).trans (show _ = some (Value.bool td) from rfl); have hm_2 := (blk_cell BK1.out 2).trans (show _ = some (Value.int .i64 tm) from rfl); have hm_3 := (blk_cell BK1.out 3).trans (show _ = some (Value.slice Ak key.length ck) from rfl); have hm_4 := (blk_cell BK1.out 4).trans (show _ = some (Value.slice Av val.length cv) from rfl); have hm_5 := (blk_cell BK1.out 5).trans (show _ = some (Value.bool q1) from rfl); have hm_6 := (blk_cell BK1.out 6).trans (show _ = some (Value.bool (!q2)) from rfl)) | (go_at_call 54; refine (impl_Old_bytesOf.calls k o td tm Ak ck key Av cv val q1 (!q2) bs _ (R_own_reads HO3.out).2 (R_own_reads HO3.out).1 (R_own_reads HO4.out).2 (R_own_reads HO4.out).1 PB.out).mono ?_; rintro e w10 ⟨v10, rfl, ho, hb⟩; have n0_ := Aside0.mk (below_step HB.out hb); have n1_ := Aside0.mk (blk_below BK0.out hb); have n2_ := Aside0.mk (blk_below BK1.out hb); have n3_ := Aside0.mk (Kd.R_below HO3.out hb); have n4_ := Aside0.mk (Kd.R_below HO4.out hb); clear HB BK0 BK1 HO3 HO4 hb; have HB := n0_; have BK0 := n1_; have BK1 := n2_; have HO3 := n3_; have HO4 := n4_; clear n0_ n1_ n2_ n3_ n4_; clear hm_0 hm_1 hm_2 hm_3 hm_4 hm_5 hm_6; have hm_0 := (blk_cell BK1.out 0).trans (show _ = some (Value.int .i64 o) from rfl); have hm_1 := (blk_cell BK1.out 1).trans (show _ = some (Value.bool td) from rfl); have hm_2 := (blk_cell BK1.out 2).trans (show _ = some (Value.int .i64 tm) from rfl); have hm_3 := (blk_cell BK1.out 3).trans (show _ = some (Value.slice Ak key.length ck) from rfl); have hm_4 := (blk_cell BK1.out 4).trans (show _ = some (Value.slice Av val.length cv) from rfl); have hm_5 := (blk_cell BK1.out 5).trans (show _ = some (Value.bool q1) from rfl); have hm_6 := (blk_cell BK1.out 6).trans (show _ = some (Value.bool (!q2)) from rfl); obtain ⟨Ab, cb, rfl, hlb, hCb⟩ := Kd.R_reads ho; have HCb := Aside0.mk (And.intro hCb hlb); clear ho hCb hlb) | (go_at_call 53; refine (slices_Equal_int_int.calls k Ab cb bs _ _ l0 false _ HCb.out.1 HCb.out.2 (Kd.C_below HR0.out HB.out) HC0.out PE.out).mono ?_; rintro e w11 ⟨rfl, hd⟩; have hb := drawn_below (Below.refl w10.heap.size w10) hd; clear hd; have n0_ := Aside0.mk (below_step HB.out hb); have n1_ := Aside0.mk (blk_below BK0.out hb); have n2_ := Aside0.mk (blk_below BK1.out hb); have n3_ := Aside0.mk (Kd.R_below HO3.out hb); have n4_ := Aside0.mk (Kd.R_below HO4.out hb); clear HB BK0 BK1 HO3 HO4 hb; have HB := n0_; have BK0 := n1_; have BK1 := n2_; have HO3 := n3_; have HO4 := n4_; clear n0_ n1_ n2_ n3_ n4_; clear hm_0 hm_1 hm_2 hm_3 hm_4 hm_5 hm_6; have hm_0 := (blk_cell BK1.out 0).trans (show _ = some (Value.int .i64 o) from rfl); have hm_1 := (blk_cell BK1.out 1).trans (show _ = some (Value.bool td) from rfl); have hm_2 := (blk_cell BK1.out 2).trans (show _ = some (Value.int .i64 tm) from rfl); have hm_3 := (blk_cell BK1.out 3).trans (show _ = some (Value.slice Ak key.length ck) from rfl); have hm_4 := (blk_cell BK1.out 4).trans (show _ = some (Value.slice Av val.length cv) from rfl); have hm_5 := (blk_cell BK1.out 5).trans (show _ = some (Value.bool q1) from rfl); have hm_6 := (blk_cell BK1.out 6).trans (show _ = some (Value.bool (!q2)) from rfl)))
                clear hm_0 hm_1 hm_2 hm_3 hm_4 hm_5 hm_6
                simp only [impl_OldFrom.z, Prod.mk.injEq] at hz
                obtain ⟨rfl, rfl, rfl, rfl, rfl, rfl, rfl, rfl⟩ := hz
                have hz_0 := (blk_cell BK0.out 0).trans (show _ = some (Value.int .i64 0) from rfl)
                have hz_1 := (blk_cell BK0.out 1).trans (show _ = some (Value.bool false) from rfl)
                have hz_2 := (blk_cell BK0.out 2).trans (show _ = some (Value.int .i64 0) from rfl)
                have hz_3 := (blk_cell BK0.out 3).trans (show _ = some (Value.slice none 0 0) from rfl)
                have hz_4 := (blk_cell BK0.out 4).trans (show _ = some (Value.slice none 0 0) from rfl)
                have hz_5 := (blk_cell BK0.out 5).trans (show _ = some (Value.bool false) from rfl)
                have hz_6 := (blk_cell BK0.out 6).trans (show _ = some (Value.bool false) from rfl)
                have hf_0 := blk_frozen BK0.out 0
                have hf_1 := blk_frozen BK0.out 1
                have hf_2 := blk_frozen BK0.out 2
                have hf_3 := blk_frozen BK0.out 3
                have hf_4 := blk_frozen BK0.out 4
                have hf_5 := blk_frozen BK0.out 5
                have hf_6 := blk_frozen BK0.out 6
                go_wp2
                refine of_end g0 _ false rfl rfl rfl (old_set7 BK0.out _ _ _ _ _ _ _) ?_
                exact ⟨_, _, rfl, Kd.R_nil _ _ _ _ _, Kd.R_nil _ _ _ _ _, by with_reducible exact below_set (below_set (below_set (below_set (below_set (below_set (below_set HB.out GE0.out) GE0.out) GE0.out) GE0.out) GE0.out) GE0.out) GE0.out⟩
              | true =>
                rw [if_pos rfl] at H
                simp only [Option.some.injEq, Prod.mk.injEq] at H
                obtain ⟨rfl, rfl, rfl, rfl, rfl, rfl, rfl, rfl⟩ := H
                go_upto_region 21 with (first | (go_at_call 20; refine (impl_OldValid.calls k o td tm Ak ck key Av cv val q1 (!q2) true _ (R_own_reads HO3.out).2 (R_own_reads HO3.out).1 (R_own_reads HO4.out).2 (R_own_reads HO4.out).1 VV.out).mono ?_; rintro e w9 ⟨rfl, hb⟩; have n0_ := Aside0.mk (below_step HB.out hb); have n1_ := Aside0.mk (blk_below BK0.out hb); have n2_ := Aside0.mk (blk_below BK1.out hb); have n3_ := Aside0.mk (Kd.R_below HO3.out hb); have n4_ := Aside0.mk (Kd.R_below HO4.out hb); clear HB BK0 BK1 HO3 HO4 hb; have HB := n0_; have BK0 := n1_; have BK1 := n2_; have HO3 := n3_; have HO4 := n4_; clear n0_ n1_ n2_ n3_ n4_; clear hm_0 hm_1 hm_2 hm_3 hm_4 hm_5 hm_6; have hm_0 := (blk_cell BK1.out 0).trans (show _ = some (Value.int .i64 o) from rfl); have hm_1 := (blk_cell BK1.out 1).trans (show _ = some (Value.bool td) from rfl); have hm_2 := (blk_cell BK1.out 2).trans (show _ = some (Value.int .i64 tm) from rfl); have hm_3 := (blk_cell BK1.out 3).trans (show _ = some (Value.slice Ak key.length ck) from rfl); have hm_4 := (blk_cell BK1.out 4).trans (show _ = some (Value.slice Av val.length cv) from rfl); have hm_5 := (blk_cell BK1.out 5).trans (show _ = some (Value.bool q1) from rfl); have hm_6 := (blk_cell BK1.out 6).trans (show _ = some (Value.bool (!q2)) from rfl)) | (go_at_call 54; refine (impl_Old_bytesOf.calls k o td tm Ak ck key Av cv val q1 (!q2) bs _ (R_own_reads HO3.out).2 (R_own_reads HO3.out).1 (R_own_reads HO4.out).2 (R_own_reads HO4.out).1 PB.out).mono ?_; rintro e w10 ⟨v10, rfl, ho, hb⟩; have n0_ := Aside0.mk (below_step HB.out hb); have n1_ := Aside0.mk (blk_below BK0.out hb); have n2_ := Aside0.mk (blk_below BK1.out hb); have n3_ := Aside0.mk (Kd.R_below HO3.out hb); have n4_ := Aside0.mk (Kd.R_below HO4.out hb); clear HB BK0 BK1 HO3 HO4 hb; have HB := n0_; have BK0 := n1_; have BK1 := n2_; have HO3 := n3_; have HO4 := n4_; clear n0_ n1_ n2_ n3_ n4_; clear hm_0 hm_1 hm_2 hm_3 hm_4 hm_5 hm_6; have hm_0 := (blk_cell BK1.out 0).trans (show _ = some (Value.int .i64 o) from rfl); have hm_1 := (blk_cell BK1.out 1).trans (show _ = some (Value.bool td) from rfl); have hm_2 := (blk_cell BK1.out 2).trans (show _ = some (Value.int .i64 tm) from rfl); have hm_3 := (blk_cell BK1.out 3).trans (show _ = some (Value.slice Ak key.length ck) from rfl); have hm_4 := (blk_cell BK1.out 4).trans (show _ = some (Value.slice Av val.length cv) from rfl); have hm_5 := (blk_cell BK1.out 5).trans (show _ = some (Value.bool q1) from rfl); have hm_6 := (blk_cell BK1.out 6).trans (show _ = some (Value.bool (!q2)) from rfl); obtain ⟨Ab, cb, rfl, hlb, hCb⟩ := Kd.R_reads ho; have HCb := Aside0.mk (And.intro hCb hlb); clear ho hCb hlb) | (go_at_call 53; refine (slices_Equal_int_int.calls k Ab cb bs _ _ l0 true _ HCb.out.1 HCb.out.2 (Kd.C_below HR0.out HB.out) HC0.out PE.out).mono ?_; rintro e w11 ⟨rfl, hd⟩; have hb := drawn_below (Below.refl w10.heap.size w10) hd; clear hd; have n0_ := Aside0.mk (below_step HB.out hb); have n1_ := Aside0.mk (blk_below BK0.out hb); have n2_ := Aside0.mk (blk_below BK1.out hb); have n3_ := Aside0.mk (Kd.R_below HO3.out hb); have n4_ := Aside0.mk (Kd.R_below HO4.out hb); clear HB BK0 BK1 HO3 HO4 hb; have HB := n0_; have BK0 := n1_; have BK1 := n2_; have HO3 := n3_; have HO4 := n4_; clear n0_ n1_ n2_ n3_ n4_; clear hm_0 hm_1 hm_2 hm_3 hm_4 hm_5 hm_6; have hm_0 := (blk_cell BK1.out 0).trans (show _ = some (Value.int .i64 o) from rfl); have hm_1 := (blk_cell BK1.out 1).trans (show _ = some (Value.bool td) from rfl); have hm_2 := (blk_cell BK1.out 2).trans (show _ = some (Value.int .i64 tm) from rfl); have hm_3 := (blk_cell BK1.out 3).trans (show _ = some (Value.slice Ak key.length ck) from rfl); have hm_4 := (blk_cell BK1.out 4).trans (show _ = some (Value.slice Av val.length cv) from rfl); have hm_5 := (blk_cell BK1.out 5).trans (show _ = some (Value.bool q1) from rfl); have hm_6 := (blk_cell BK1.out 6).trans (show _ = some (Value.bool (!q2)) from rfl)))
                have hz_0 := (blk_cell BK0.out 0).trans (show _ = some (Value.int .i64 0) from rfl)
                have hz_1 := (blk_cell BK0.out 1).trans (show _ = some (Value.bool false) from rfl)
                have hz_2 := (blk_cell BK0.out 2).trans (show _ = some (Value.int .i64 0) from rfl)
                have hz_3 := (blk_cell BK0.out 3).trans (show _ = some (Value.slice none 0 0) from rfl)
                have hz_4 := (blk_cell BK0.out 4).trans (show _ = some (Value.slice none 0 0) from rfl)
                have hz_5 := (blk_cell BK0.out 5).trans (show _ = some (Value.bool false) from rfl)
                have hz_6 := (blk_cell BK0.out 6).trans (show _ = some (Value.bool false) from rfl)
                have hf_0 := blk_frozen BK0.out 0
                have hf_1 := blk_frozen BK0.out 1
                have hf_2 := blk_frozen BK0.out 2
                have hf_3 := blk_frozen BK0.out 3
                have hf_4 := blk_frozen BK0.out 4
                have hf_5 := blk_frozen BK0.out 5
                have hf_6 := blk_frozen BK0.out 6
                have hne := NB.out
                have hnf := NB.out.symm
                go_wp2
                refine of_end g0 _ true rfl rfl rfl (old_set7 BK0.out _ _ _ _ _ _ _) ?_
                exact ⟨_, _, rfl, R_set7 BK0.out HO3.out _ _ _ _ _ _ _, R_set7 BK0.out HO4.out _ _ _ _ _ _ _, below_set (below_set (below_set (below_set (below_set (below_set (below_set HB.out GE0.out) GE0.out) GE0.out) GE0.out) GE0.out) GE0.out) GE0.out⟩
          · rw [if_neg c3] at H
            have hz : impl_OldFrom.z = (r1, r2, r3, r4, r5, r6, r7, r8) := by simpa using H
            have d3 : decide ((0 : Int) < (rs3.length : Int)) = true := decide_eq_true (by omega)
            have d4 : decide (0 < rs3.length) = true := decide_eq_true (by omega)
            clear H
            go_upto_region 17 with fail
            simp only [impl_OldFrom.z, Prod.mk.injEq] at hz
            obtain ⟨rfl, rfl, rfl, rfl, rfl, rfl, rfl, rfl⟩ := hz
            have hz_0 := (blk_cell BK0.out 0).trans (show _ = some (Value.int .i64 0) from rfl)
            have hz_1 := (blk_cell BK0.out 1).trans (show _ = some (Value.bool false) from rfl)
            have hz_2 := (blk_cell BK0.out 2).trans (show _ = some (Value.int .i64 0) from rfl)
            have hz_3 := (blk_cell BK0.out 3).trans (show _ = some (Value.slice none 0 0) from rfl)
            have hz_4 := (blk_cell BK0.out 4).trans (show _ = some (Value.slice none 0 0) from rfl)
            have hz_5 := (blk_cell BK0.out 5).trans (show _ = some (Value.bool false) from rfl)
            have hz_6 := (blk_cell BK0.out 6).trans (show _ = some (Value.bool false) from rfl)
            have hf_0 := blk_frozen BK0.out 0
            have hf_1 := blk_frozen BK0.out 1
            have hf_2 := blk_frozen BK0.out 2
            have hf_3 := blk_frozen BK0.out 3
            have hf_4 := blk_frozen BK0.out 4
            have hf_5 := blk_frozen BK0.out 5
            have hf_6 := blk_frozen BK0.out 6
            go_wp2
            refine of_end g0 _ false rfl rfl rfl (old_set7 BK0.out _ _ _ _ _ _ _) ?_
            exact ⟨_, _, rfl, Kd.R_nil _ _ _ _ _, Kd.R_nil _ _ _ _ _, by with_reducible exact below_set (below_set (below_set (below_set (below_set (below_set (below_set HB.out GE0.out) GE0.out) GE0.out) GE0.out) GE0.out) GE0.out) GE0.out⟩

end Go.Proofs.Ytmpnedpokdaejaa.QFnExactOldFrom
