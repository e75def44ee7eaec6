-- Written by this session (the walk of the law, by hand).
import Derived.Test.YtdgpkjjclngamaaQFnBatchPartx0
import Derived.Test.YtdgpkjjclngamaaQFnBatchPartx1
import Derived.Test.YtdgpkjjclngamaaQFnBatchPartx2
import Derived.Test.YtdgpkjjclngamaaQFnBatchPartx3
import Derived.Test.YtdgpkjjclngamaaQFnBatchPartx4
import Derived.Test.YtdgpkjjclngamaaQFnBatchPartx5
import Derived.Test.YtdgpkjjclngamaaQFnBatchPartx6
import Derived.Test.YtdgpkjjclngamaaQFnBatchPartx7
import Derived.Test.YtdgpkjjclngamaaQFnBatchPartx8
namespace Go.Proofs.Ytdgpkjjclngamaa.QFnBatchPart
open Go.RowKit Go.Proofs.YtdgpkjjclngamaaW.PrintWords Go.Proofs.YtdgpkjjclngamaaW.PrintLast Go.Proofs.YtdgpkjjclngamaaW.PrintMore
set_option linter.unusedVariables false
set_option linter.unusedSimpArgs false
/-- What the law's calls tell: numbers and lists alone. -/
structure laws_FnBatchPart.Facts (l0 : List Int) (k : Nat) (t1 t2 : Bool) (t3 t4 t5 : Int) (L : List S27) (ok : Bool) : Prop where
  draw : spec_DrawBatchValid.f k l0 = some (t1, t2, t3, t4, t5, L)
  imp : impl_BatchValid.f k t1 t2 t3 t4 t5 L = some ok
  spec : spec_BatchValid.f k t1 t2 t3 t4 t5 L = some ok
  small : L.length ≤ 1000
  yes : ok = true → 0 < L.length ∧ impl_BatchValid.f k t1 t2 t3 t4 t5 [] = some false ∧ impl_BatchValid.f k t1 t2 t3 t4 t5 ([rd_T27 L 0] ++ L) = some false ∧ impl_BatchValid.f k t1 true 255 t4 t5 L = some false
theorem blk_nw (w : World) (cs : Array Value) (t : TypeId) : (w.alloc (.cells cs t)).heap[w.heap.size]? = some (.cells cs t (0, 0)) := by
  show (w.heap.push _)[w.heap.size]? = _
  simp
theorem blk_b {w w1 : World} {g : Nat} {o : Obj} (h : w.heap[g]? = some o) (hb : Below w.heap.size w w1) : w1.heap[g]? = some o := (hb.block g (Array.getElem?_eq_some_iff.1 h).1).trans h
theorem blw_new (w : World) (o : Obj) : Below w.heap.size w (w.alloc o) := below_alloc (Below.refl _ _) o
theorem cell_b {w w1 : World} {p : Addr} {v : Value} (h : w.cell? p = some v) (hb : Below w.heap.size w w1) : w1.cell? p = some v := by
  have hlt := World.block_lt_of_cell? w p h
  rw [← h]
  simp only [World.cell?, hb.block p.block hlt]
theorem blw_t {a b c : World} (h : Below a.heap.size a b) (k : Below b.heap.size b c) : Below a.heap.size a c := h.trans (k.mono h.size)
theorem N_frm {α : Type} {d : Kd α} {e : Nat} {w : World} {base : Nat} {ok : Nat → Prop} {v : Value} {xs : List α} (h : Kd.N d e w base ok v xs) (hp : 0 < xs.length) : ∃ g cap, v = .slice (some ⟨g, 0, none⟩) xs.length cap := by
  have h' := h
  obtain ⟨_, rows, hl, ⟨_, inner, ho, _⟩, _⟩ := h
  rcases ho.2 with ⟨rfl, hn⟩ | ⟨g, cap, cur, rfl, _⟩
  · have := (Kd.N_reads' h').1
    omega
  · exact ⟨g, cap, by rw [hl]⟩
theorem C_zero (w w1 : World) {A : Option Addr} (h : Kd.C k27 w A 0 []) : Kd.C k27 w1 A 0 [] := ⟨rfl, h.2.1, fun hp => absurd hp (by decide)⟩
set_option maxHeartbeats 4000000 in
set_option maxRecDepth 100000 in
theorem laws_FnBatchPart.long (A0 : Option Addr) (c0 : Nat) (l0 : List Int) (w : World) (h : (l0.length : Int) > 1048576) :
    Calls Try.prog 8 #[.slice A0 l0.length c0] w fun e w' => e = .returned (.bool true) ∧ Below w.heap.size w w' := by
  have c2b0 : decide (1048576 < (l0.length : Int)) = true := decide_eq_true h
  have c2b1 : decide (1048576 < l0.length) = true := decide_eq_true (by omega)
  go_enter Try.func8, Try.ntmps8
  go_wp2
  go_ret
  exact ⟨rfl, Below.refl _ _⟩
set_option maxHeartbeats 8000000 in
set_option maxRecDepth 100000 in
theorem laws_FnBatchPart.calls (k : Nat) (A0 : Option Addr) (c0 : Nat) (l0 : List Int) (w : World) (hr0 : Kd.C (Kd.int .u8) w A0 l0.length l0) (hc0 : l0.length ≤ c0) (hl : ¬ (l0.length : Int) > 1048576)
    (t1 t2 : Bool) (t3 t4 t5 : Int) (L : List S27) (ok : Bool) (F : laws_FnBatchPart.Facts l0 k t1 t2 t3 t4 t5 L ok) :
    Calls Try.prog 8 #[.slice A0 l0.length c0] w fun e w' => e = .returned (.bool true) ∧ Below w.heap.size w w' := by
  have c2b0 : decide (1048576 < (l0.length : Int)) = false := decide_eq_false hl
  have c2b1 : decide (1048576 < l0.length) = false := decide_eq_false (by omega)
  have FF := Aside0.mk F
  clear F
  have hu54 := Try.underlying54
  have hu27 := Try.underlying27
  have h39 := spec_DrawBatchValid.calls k A0 c0 l0 t1 t2 t3 t4 t5 L w hr0 hc0 FF.out.draw
  have HL0 := Aside0.mk hl
  clear hr0 hc0 hl
  go_enter Try.func8, Try.ntmps8
  go_upto_region 4 with (go_at_call 39; refine h39.mono ?_; rintro e w1 ⟨v, rfl, hN, hb⟩; (obtain ⟨Al, cl, rfl⟩ := Kd.N_slice hN); have HX := Aside0.mk (And.intro hN hb); clear hN hb h39)
  have hbk := blk_nw w1 #[.bool t1, .bool t2, .int .i64 t3, .int .i64 t4, .int .i64 t5, .slice Al L.length cl] 54
  have hbw := blw_new w1 (.cells #[.bool t1, .bool t2, .int .i64 t3, .int .i64 t4, .int .i64 t5, .slice Al L.length cl] 54)
  obtain ⟨g, hg⟩ : ∃ g, g = w1.heap.size := ⟨_, rfl⟩
  rw [← hg] at hbk
  generalize w1.alloc (.cells #[.bool t1, .bool t2, .int .i64 t3, .int .i64 t4, .int .i64 t5, .slice Al L.length cl] 54) = w2 at *
  rw [← hg]
  have hCl := Kd.N_reads' HX.out.1
  have h40 := impl_BatchValid.calls k t1 t2 t3 t4 t5 Al cl L ok w2 (Kd.C_below hCl.2.2 hbw) hCl.2.1 FF.out.imp
  have H2 := Aside0.mk (And.intro hbk (And.intro (blw_t HX.out.2 hbw) (And.intro (Kd.N_below HX.out.1 hbw) hCl.2.1)))
  have hz0 : w2.cell? ⟨g, 0, none⟩ = some (.bool t1) := (blk_cell hbk 0).trans rfl
  have hz1 : w2.cell? ⟨g, 1, none⟩ = some (.bool t2) := (blk_cell hbk 1).trans rfl
  have hz2 : w2.cell? ⟨g, 2, none⟩ = some (.int .i64 t3) := (blk_cell hbk 2).trans rfl
  have hz3 : w2.cell? ⟨g, 3, none⟩ = some (.int .i64 t4) := (blk_cell hbk 3).trans rfl
  have hz4 : w2.cell? ⟨g, 4, none⟩ = some (.int .i64 t5) := (blk_cell hbk 4).trans rfl
  have hz5 : w2.cell? ⟨g, 5, none⟩ = some (.slice Al L.length cl) := (blk_cell hbk 5).trans rfl
  clear hbk hbw hg hCl
  go_upto_region 5 with (go_at_call 40; refine h40.mono ?_; rintro e w3 ⟨rfl, hb⟩; have HY := Aside0.mk hb; clear hb h40)
  clear hz0 hz1 hz2 hz3 hz4 hz5
  have hbk := blk_b H2.out.1 HY.out
  have hN3 := Kd.N_below H2.out.2.2.1 HY.out
  have h41 := spec_BatchValid.calls k t1 t2 t3 t4 t5 Al cl L ok w3 (Kd.N_reads' hN3).2.2 H2.out.2.2.2 FF.out.spec
  have H3 := Aside0.mk (And.intro hbk (And.intro (blw_t H2.out.2.1 HY.out) hN3))
  have hz0 : w3.cell? ⟨g, 0, none⟩ = some (.bool t1) := (blk_cell hbk 0).trans rfl
  have hz1 : w3.cell? ⟨g, 1, none⟩ = some (.bool t2) := (blk_cell hbk 1).trans rfl
  have hz2 : w3.cell? ⟨g, 2, none⟩ = some (.int .i64 t3) := (blk_cell hbk 2).trans rfl
  have hz3 : w3.cell? ⟨g, 3, none⟩ = some (.int .i64 t4) := (blk_cell hbk 3).trans rfl
  have hz4 : w3.cell? ⟨g, 4, none⟩ = some (.int .i64 t5) := (blk_cell hbk 4).trans rfl
  have hz5 : w3.cell? ⟨g, 5, none⟩ = some (.slice Al L.length cl) := (blk_cell hbk 5).trans rfl
  clear hbk hN3
  by_cases hok : ok = true
  · subst hok
    obtain ⟨y0, y1, y2, y3⟩ := FF.out.yes rfl
    have HYY := Aside0.mk (And.intro y1 (And.intro y2 y3))
    obtain ⟨gl, cl', hAl⟩ := N_frm H3.out.2.2 y0
    injection hAl with hAl _ hcl
    subst hAl
    clear hcl y1 y2 y3
    have hsm := FF.out.small
    go_upto_region 8 with (go_at_call 41; refine h41.mono ?_; rintro e w4 ⟨rfl, hb⟩; have HW := Aside0.mk hb; clear hb h41)
    clear hz0 hz1 hz2 hz3 hz4 hz5
    have BK4 := blk_b H3.out.1 HW.out
    have B04 := Aside0.mk (blw_t H3.out.2.1 HW.out)
    have N4 := Aside0.mk (Kd.N_below H3.out.2.2 HW.out)
    have HSZ := Aside0.mk y0
    have hz0 : w4.cell? ⟨g, 0, none⟩ = some (.bool t1) := (blk_cell BK4 0).trans rfl
    have hz1 : w4.cell? ⟨g, 1, none⟩ = some (.bool t2) := (blk_cell BK4 1).trans rfl
    have hz2 : w4.cell? ⟨g, 2, none⟩ = some (.int .i64 t3) := (blk_cell BK4 2).trans rfl
    have hz3 : w4.cell? ⟨g, 3, none⟩ = some (.int .i64 t4) := (blk_cell BK4 3).trans rfl
    have hz4 : w4.cell? ⟨g, 4, none⟩ = some (.int .i64 t5) := (blk_cell BK4 4).trans rfl
    have hz5 : w4.cell? ⟨g, 5, none⟩ = some (.slice (some ⟨gl, 0, none⟩) L.length cl) := (blk_cell BK4 5).trans rfl
    go_upto_region 9 with fail
    have bk6 := blk_nw w4 #[.bool t1, .bool t2, .int .i64 t3, .int .i64 t4, .int .i64 t5, .slice (some ⟨gl, 0, none⟩) L.length cl] 54
    have bw6 := blw_new w4 (.cells #[.bool t1, .bool t2, .int .i64 t3, .int .i64 t4, .int .i64 t5, .slice (some ⟨gl, 0, none⟩) L.length cl] 54)
    clear hz0 hz1 hz2 hz3 hz4 hz5
    obtain ⟨g6, hg⟩ : ∃ g, g = w4.heap.size := ⟨_, rfl⟩
    rw [← hg] at bk6
    generalize w4.alloc (.cells #[.bool t1, .bool t2, .int .i64 t3, .int .i64 t4, .int .i64 t5, .slice (some ⟨gl, 0, none⟩) L.length cl] 54) = w5 at *
    rw [← hg]
    have H5 := Aside0.mk (And.intro bk6 (And.intro bw6 hg))
    clear bk6 bw6 hg
    have hs65 : w5.cell? ⟨g6, 5, none⟩ = some (.slice (some ⟨gl, 0, none⟩) L.length cl) := (blk_cell H5.out.1 5).trans rfl
    have hf65 := blk_frozen H5.out.1 5
    go_upto_region 10 with (first | ((with_reducible refine gate_dst (N := 29) rfl ?_); refine Kd.R_lit k27 _ 27 ?hg (N := 29) ?hd (xs := ([] : List S27)) (inner := []) (ok := fun _ => True) (okp := fun _ => True) ?hr ?hp (fun _ hk => hk) trivial (Below.refl _ _) (Nat.le_refl _) (by simp) ?_; (case hd => rfl); (case hg => rfl); (case hr => first | (go_simp; done) | (go_simp; rfl)); (case hp => exact (Reps.none _ _)); intro ve w6 hoe hbe hge hate; (obtain ⟨Ae, ce, rfl⟩ := Kd.R_slice hoe); have H6 := Aside0.mk (And.intro (Kd.R_reads' hoe).2 hbe); have hs65b := cell_b hs65 hbe; have hf65b := blk_frozen (blk_b H5.out.1 hbe) 5; clear hoe hbe hge hate))
    -- the batch without records
    have bk6 : (w6.setCell ⟨g6, 5, none⟩ (.slice Ae 0 ce)).heap[g6]? = some (.cells #[.bool t1, .bool t2, .int .i64 t3, .int .i64 t4, .int .i64 t5, .slice Ae 0 ce] 54 (0, 0)) := blk_put (cs := #[.bool t1, .bool t2, .int .i64 t3, .int .i64 t4, .int .i64 t5, .slice (some ⟨gl, 0, none⟩) L.length cl]) (blk_b H5.out.1 H6.out.2) 5 (.slice Ae 0 ce) rfl
    have b47 : Below w4.heap.size w4 (w6.setCell ⟨g6, 5, none⟩ (.slice Ae 0 ce)) := (blw_t H5.out.2.1 H6.out.2).setCell (p := ⟨g6, 5, none⟩) (by show w4.heap.size ≤ g6; rw [H5.out.2.2]; exact Nat.le_refl _) _
    clear hs65 hf65 hs65b hf65b
    generalize w6.setCell ⟨g6, 5, none⟩ (.slice Ae 0 ce) = w7 at *
    have H7 := Aside0.mk (And.intro bk6 (And.intro (blw_t B04.out b47) (And.intro (blk_b BK4 b47) (Kd.N_below N4.out b47))))
    clear bk6 b47 BK4
    have BK7 := H7.out.2.2.1
    have hz0 : w7.cell? ⟨g, 0, none⟩ = some (.bool t1) := (blk_cell BK7 0).trans rfl
    have hz1 : w7.cell? ⟨g, 1, none⟩ = some (.bool t2) := (blk_cell BK7 1).trans rfl
    have hz2 : w7.cell? ⟨g, 2, none⟩ = some (.int .i64 t3) := (blk_cell BK7 2).trans rfl
    have hz3 : w7.cell? ⟨g, 3, none⟩ = some (.int .i64 t4) := (blk_cell BK7 3).trans rfl
    have hz4 : w7.cell? ⟨g, 4, none⟩ = some (.int .i64 t5) := (blk_cell BK7 4).trans rfl
    have hz5 : w7.cell? ⟨g, 5, none⟩ = some (.slice (some ⟨gl, 0, none⟩) L.length cl) := (blk_cell BK7 5).trans rfl
    clear BK7
    go_upto_region 11 with fail
    have bk7 := blk_nw w7 #[.bool t1, .bool t2, .int .i64 t3, .int .i64 t4, .int .i64 t5, .slice (some ⟨gl, 0, none⟩) L.length cl] 54
    have bw7 := blw_new w7 (.cells #[.bool t1, .bool t2, .int .i64 t3, .int .i64 t4, .int .i64 t5, .slice (some ⟨gl, 0, none⟩) L.length cl] 54)
    clear hz0 hz1 hz2 hz3 hz4 hz5
    obtain ⟨g7, hg⟩ : ∃ g, g = w7.heap.size := ⟨_, rfl⟩
    rw [← hg] at bk7
    generalize w7.alloc (.cells #[.bool t1, .bool t2, .int .i64 t3, .int .i64 t4, .int .i64 t5, .slice (some ⟨gl, 0, none⟩) L.length cl] 54) = w8 at *
    rw [← hg]
    have N8 := Kd.N_mono (ok' := fun k => True ∧ k < g7) (Kd.N_below (Kd.N_bound H7.out.2.2.2) bw7) (fun k hk => ⟨trivial, by rw [hg]; exact hk.2⟩)
    have HG7 := Aside0.mk (show g7 < w8.heap.size from (Array.getElem?_eq_some_iff.1 bk7).1)
    have BK8 := blk_b H7.out.2.2.1 bw7
    have hz5 : w8.cell? ⟨g, 5, none⟩ = some (.slice (some ⟨gl, 0, none⟩) L.length cl) := (blk_cell BK8 5).trans rfl
    obtain ⟨X, hX⟩ : ∃ X, X = rd_T27 L 0 := ⟨_, rfl⟩
    obtain ⟨c, hcl, hFK, hcc, _⟩ := Kd.N_elem N8 z27 0 (by decide) (by have := HSZ.out; omega)
    have hFK2 := hFK
    rw [show L.getD ((0 : Int)).toNat z27 = X from hX.symm] at hFK2
    obtain ⟨A3, c3, A5, c5, rfl, l3, F3, l5, F5⟩ := k27_openF hFK2
    have he0 : w8.cell? ⟨gl, 0, none⟩ = some (.int .i64 X.f0) := hcc 0 _ rfl
    have he1 : w8.cell? ⟨gl, 1, none⟩ = some (.int .i64 X.f1) := hcc 1 _ rfl
    have he2 : w8.cell? ⟨gl, 2, none⟩ = some (.bool X.f2) := hcc 2 _ rfl
    have he3 : w8.cell? ⟨gl, 3, none⟩ = some (.slice A3 X.f3.length c3) := hcc 3 _ rfl
    have he4 : w8.cell? ⟨gl, 4, none⟩ = some (.bool X.f4) := hcc 4 _ rfl
    have he5 : w8.cell? ⟨gl, 5, none⟩ = some (.slice A5 X.f5.length c5) := hcc 5 _ rfl
    have hFKb : Kd.FK k27 w8.drew (fun k => k < g7) X [.int .i64 X.f0, .int .i64 X.f1, .bool X.f2, .slice A3 X.f3.length c3, .bool X.f4, .slice A5 X.f5.length c5] := Kd.FK_mono (Kd.FK_step (W1 := w8.drew) hFK2 (fun _ _ _ => rfl)) (fun _ hk => hk.1.2)
    have hqz : (0 < L.length) = True := eq_true y0
    have hLs : L.length ≤ 1000 := hsm
    have BK7d : w8.drew.heap[g7]? = some (.cells #[.bool t1, .bool t2, .int .i64 t3, .int .i64 t4, .int .i64 t5, .slice (some ⟨gl, 0, none⟩) L.length cl] 54 (0, 0)) := bk7
    have H8 := Aside0.mk (And.intro hg (And.intro bw7 (And.intro BK8 (And.intro hX hFK))))
    clear hcc hFK hFK2 F3 F5 l3 l5 hcl hg bw7 BK8 hX bk7
    refine start_ (n := 10) (S := fun w' => w'.cell? ⟨g, 5, none⟩ = some (.slice (some ⟨gl, 0, none⟩) L.length cl) ∧ w'.cell? ⟨gl, 0, none⟩ = some (.int .i64 X.f0) ∧ w'.cell? ⟨gl, 1, none⟩ = some (.int .i64 X.f1) ∧ w'.cell? ⟨gl, 2, none⟩ = some (.bool X.f2) ∧ w'.cell? ⟨gl, 3, none⟩ = some (.slice A3 X.f3.length c3) ∧ w'.cell? ⟨gl, 4, none⟩ = some (.bool X.f4) ∧ w'.cell? ⟨gl, 5, none⟩ = some (.slice A5 X.f5.length c5)) (ds := [7, 9]) #[false, false, false, false, false, false, false, false, false, false] (by kernel_rfl) rfl rfl ⟨hz5, he0, he1, he2, he3, he4, he5⟩ (fun hHeld => ?_)
    refine pure_ (i := 0) (N := some 32) (v := ?_) (a' := ?_) #[true, false, false, false, false, false, false, false, false, false] rfl rfl (by kernel_rfl) (fun _ _ _ h => h) (Or.inl ⟨by rfl, ?_⟩) ?_ ?_
    rotate_left
    · intro w'
      go_simp
      with_reducible rfl
    rotate_left
    · simp only [Act.put, List.setIfInBounds_toArray, List.set_cons_zero, List.set_cons_succ, i64_w, i32_w]
      rfl
    refine pure_ (i := 5) (N := some 37) (v := ?_) (a' := ?_) #[true, false, false, false, false, true, false, false, false, false] rfl rfl (by kernel_rfl) (fun _ _ _ h => h) (Or.inl ⟨by rfl, ?_⟩) ?_ ?_
    rotate_left
    · intro w'
      go_simp
      with_reducible rfl
    rotate_left
    · simp only [Act.put, List.setIfInBounds_toArray, List.set_cons_zero, List.set_cons_succ, i64_w, i32_w]
      rfl
    refine take_ (i := 1) (N := some 33) (v := ?_) (a' := ?_) #[true, true, false, false, false, true, false, false, false, false] rfl rfl (by kernel_rfl) (fun _ _ _ h => h) (Or.inl ⟨by rfl, ?_⟩) hHeld ?_ ?_
    rotate_left
    · rintro w' ⟨s0, s1, s2, s3, s4, s5, s6⟩
      go_simp
      with_reducible rfl
    rotate_left
    · simp only [Act.put, List.setIfInBounds_toArray, List.set_cons_zero, List.set_cons_succ, i64_w, i32_w]
      rfl
    refine pure_ (i := 2) (N := some 34) (v := ?_) (a' := ?_) #[true, true, true, false, false, true, false, false, false, false] rfl rfl (by kernel_rfl) (fun _ _ _ h => h) (Or.inl ⟨by rfl, ?_⟩) ?_ ?_
    rotate_left
    · intro w'
      go_simp
      with_reducible rfl
    rotate_left
    · simp only [Act.put, List.setIfInBounds_toArray, List.set_cons_zero, List.set_cons_succ, i64_w, i32_w]
      rfl
    refine take_ (i := 3) (N := some 35) (v := ?_) (a' := ?_) #[true, true, true, true, false, true, false, false, false, false] rfl rfl (by kernel_rfl) (fun _ _ _ h => h) (Or.inl ⟨by rfl, ?_⟩) hHeld ?_ ?_
    rotate_left
    · rintro w' ⟨s0, s1, s2, s3, s4, s5, s6⟩
      go_simp
      with_reducible rfl
    rotate_left
    · simp only [Act.put, List.setIfInBounds_toArray, List.set_cons_zero, List.set_cons_succ, i64_w, i32_w]
      rfl
    refine take_ (i := 6) (N := some 38) (v := ?_) (a' := ?_) #[true, true, true, true, false, true, true, false, false, false] rfl rfl (by kernel_rfl) (fun _ _ _ h => h) (Or.inl ⟨by rfl, ?_⟩) hHeld ?_ ?_
    rotate_left
    · rintro w' ⟨s0, s1, s2, s3, s4, s5, s6⟩
      go_simp
      with_reducible rfl
    rotate_left
    · simp only [Act.put, List.setIfInBounds_toArray, List.set_cons_zero, List.set_cons_succ, i64_w, i32_w]
      rfl
    refine one_ (i := 4) (N := some 36) #[true, true, true, true, true, true, true, false, false, false] rfl rfl (by kernel_rfl) (by decide) (fun K hK => ?_)
    refine Kd.N_lit_step k27 _ 27 ?hg (N' := 36) ?hd (xs := [X]) (inner := [.int .i64 X.f0, .int .i64 X.f1, .bool X.f2, .slice A3 X.f3.length c3, .bool X.f4, .slice A5 X.f5.length c5]) (ok := fun k => k ≠ g7) (okp := fun k => k < g7) ?hr ?hp (fun k hk => by have hk' : k < g7 := hk; show k ≠ g7; omega) (by show w8.heap.size ≠ g7; have := HG7.out; omega) (Below.refl _ _) (Nat.le_refl _) (by simp) ?_
    (case hd => rfl)
    (case hg => rfl)
    (case hr => first | (go_simp; done) | (go_simp; rfl))
    (case hp => exact Reps.c6 hFKb (Reps.none _ _))
    intro v9 w9 hN9 hb9 hg9 hat9
    refine hK.out _ _ ⟨cell_b (w := w8.drew) hz5 hb9, cell_b (w := w8.drew) he0 hb9, cell_b (w := w8.drew) he1 hb9, cell_b (w := w8.drew) he2 hb9, cell_b (w := w8.drew) he3 hb9, cell_b (w := w8.drew) he4 hb9, cell_b (w := w8.drew) he5 hb9⟩ (fun hHeld => ?_)
    clear hK K
    refine norm_ (a' := ?_) ?_ ?_
    rotate_left
    · show Act.put _ (some 36) _ = _
      simp only [Act.put, List.setIfInBounds_toArray, List.set_cons_zero, List.set_cons_succ, i64_w, i32_w]
      rfl
    refine last_ (i := 7) (N := some 39) #[true, true, true, true, true, true, true, true, false, false] rfl rfl (by kernel_rfl) (by decide) (fun K hK => ?_)
    obtain ⟨b9, hb9v, hb9s⟩ := hat9
    have hFL := Kd.N_F (Kd.N_mono (ok' := fun k => k < g7) (Kd.N_below (Kd.N_drew N8) hb9) (fun _ hk => hk.2))
    refine Kd.N_append_rows_step k27 (w0 := w8.drew) w8.drew.heap.size (by rfl) (.tmp 36) (.tmp 38) 52 27 (.agg #[(.int .i64 0), (.int .i64 0), (.bool false), (.slice none 0 0), (.bool false), (.slice none 0 0)]) 80 rfl Try.underlying52 info27 rfl (by decide) (by omega) v9 [X] L _ _ _ (fun k => k ≠ g7) (fun k => k < g7) rfl rfl hN9 hFL ?hokp (fun k hk => by have h8 : w8.heap.size ≤ w9.heap.size := hb9.size; have := HG7.out; omega) hb9 hb9.size (by simp; omega) ?_
    (case hokp => exact fun k hk => ⟨by have hk2 : k < g7 := hk; omega, fun e => by rw [hb9v] at e; injection e with e; have h8 : w8.heap.size ≤ b9 := hb9s; have hk2 : k < g7 := hk; have := HG7.out; omega⟩)
    intro v10 w10 hN10 hb10 hg10 hat10
    obtain ⟨A10, c10, rfl⟩ := Kd.N_slice hN10
    have BK7c := blk_b BK7d hb10
    have hq5 : w10.cell? ⟨g7, 5, none⟩ = some (.slice (some ⟨gl, 0, none⟩) L.length cl) := (blk_cell BK7c 5).trans rfl
    have hqf := blk_frozen BK7c 5
    refine hK.out _ _ ?_
    clear hK K
    refine norm_ (a' := ?_) ?_ ?_
    rotate_left
    · show Act.put _ (some 39) _ = _
      simp only [Act.put, List.setIfInBounds_toArray, List.set_cons_zero, List.set_cons_succ, i64_w, i32_w]
      rfl
    refine pure_ (i := 8) (N := some 40) (v := ?_) (a' := ?_) #[true, true, true, true, true, true, true, true, true, false] rfl rfl (by kernel_rfl) (fun _ _ _ h => h) (Or.inl ⟨by rfl, ?_⟩) ?_ ?_
    rotate_left
    · intro w'
      go_simp
      with_reducible rfl
    rotate_left
    · simp only [Act.put, List.setIfInBounds_toArray, List.set_cons_zero, List.set_cons_succ, i64_w, i32_w]
      rfl
    refine last_ (i := 9) (N := none) #[true, true, true, true, true, true, true, true, true, true] rfl rfl (by kernel_rfl) (by decide) (fun K hK => ?_)
    refine skip_ (w1 := ?_) (by rfl) rfl ?_ ?_
    rotate_left
    · go_simp
      rfl
    refine hK.out _ _ ?_
    clear hK K
    refine done_ (by kernel_rfl) ?_
    have elen : ([X] ++ L).length = L.length + 1 := by simp
    rw [elen] at hN10
    have b711 : Below w7.heap.size w7 (w10.setCell ⟨g7, 5, none⟩ (.slice A10 (L.length + 1) c10)) := ((below_drew H8.out.2.1).trans (Below.mono hb10 (by show w7.heap.size ≤ w8.heap.size; exact H8.out.2.1.size))).setCell (p := ⟨g7, 5, none⟩) (by show w7.heap.size ≤ g7; rw [H8.out.1]; exact Nat.le_refl _) _
    have bk7 : (w10.setCell ⟨g7, 5, none⟩ (.slice A10 (L.length + 1) c10)).heap[g7]? = some (.cells #[.bool t1, .bool t2, .int .i64 t3, .int .i64 t4, .int .i64 t5, .slice A10 (L.length + 1) c10] 54 (0, 0)) := blk_put (cs := #[.bool t1, .bool t2, .int .i64 t3, .int .i64 t4, .int .i64 t5, .slice (some ⟨gl, 0, none⟩) L.length cl]) BK7c 5 _ rfl
    have N11 := Kd.N_far (p := ⟨g7, 5, none⟩) hN10 (fun k hk => hk) (.slice A10 (L.length + 1) c10)
    rw [elen]
    clear hq5 hqf BK7c BK7d N8 he0 he1 he2 he3 he4 he5 hz5 hHeld hN10 hb10 hg10 hat10
    generalize w10.setCell ⟨g7, 5, none⟩ (.slice A10 (L.length + 1) c10) = w11 at *
    have H11 := Aside0.mk (And.intro (blw_t H7.out.2.1 b711) (And.intro (blk_b H7.out.1 b711) (And.intro (blk_b H7.out.2.2.1 b711) (And.intro bk7 (And.intro N11 (Kd.N_below H7.out.2.2.2 b711))))))
    have BK11 := H11.out.2.2.1
    have hz0 : w11.cell? ⟨g, 0, none⟩ = some (.bool t1) := (blk_cell BK11 0).trans rfl
    have hz1 : w11.cell? ⟨g, 1, none⟩ = some (.bool t2) := (blk_cell BK11 1).trans rfl
    have hz2 : w11.cell? ⟨g, 2, none⟩ = some (.int .i64 t3) := (blk_cell BK11 2).trans rfl
    have hz3 : w11.cell? ⟨g, 3, none⟩ = some (.int .i64 t4) := (blk_cell BK11 3).trans rfl
    have hz4 : w11.cell? ⟨g, 4, none⟩ = some (.int .i64 t5) := (blk_cell BK11 4).trans rfl
    have hz5 : w11.cell? ⟨g, 5, none⟩ = some (.slice (some ⟨gl, 0, none⟩) L.length cl) := (blk_cell BK11 5).trans rfl
    clear BK11 b711 bk7 N11
    go_upto_region 13 with fail
    clear hz0 hz1 hz2 hz3 hz4 hz5
    have bk8 := blk_nw w11 #[.bool t1, .bool t2, .int .i64 t3, .int .i64 t4, .int .i64 t5, .slice (some ⟨gl, 0, none⟩) L.length cl] 54
    have bw8 := blw_new w11 (.cells #[.bool t1, .bool t2, .int .i64 t3, .int .i64 t4, .int .i64 t5, .slice (some ⟨gl, 0, none⟩) L.length cl] 54)
    obtain ⟨g8, hg⟩ : ∃ g, g = w11.heap.size := ⟨_, rfl⟩
    rw [← hg] at bk8
    generalize w11.alloc (.cells #[.bool t1, .bool t2, .int .i64 t3, .int .i64 t4, .int .i64 t5, .slice (some ⟨gl, 0, none⟩) L.length cl] 54) = w12 at *
    rw [← hg]
    have hq2 : w12.cell? ⟨g8, 2, none⟩ = some (.int .i64 t3) := (blk_cell bk8 2).trans rfl
    have hf2 := blk_frozen bk8 2
    have H12 := Aside0.mk (And.intro bk8 (And.intro bw8 hg))
    clear bk8 bw8 hg
    go_upto_region 14 with fail
    have bk8 : (w12.setCell ⟨g8, 2, none⟩ (.int .i64 255)).heap[g8]? = some (.cells #[.bool t1, .bool t2, .int .i64 255, .int .i64 t4, .int .i64 t5, .slice (some ⟨gl, 0, none⟩) L.length cl] 54 (0, 0)) := blk_put (cs := #[.bool t1, .bool t2, .int .i64 t3, .int .i64 t4, .int .i64 t5, .slice (some ⟨gl, 0, none⟩) L.length cl]) H12.out.1 2 _ rfl
    have bw8 : Below w11.heap.size w11 (w12.setCell ⟨g8, 2, none⟩ (.int .i64 255)) := H12.out.2.1.setCell (p := ⟨g8, 2, none⟩) (by show w11.heap.size ≤ g8; rw [H12.out.2.2]; exact Nat.le_refl _) _
    clear hq2 hf2
    generalize w12.setCell ⟨g8, 2, none⟩ (.int .i64 255) = w13 at *
    have hq1 : w13.cell? ⟨g8, 1, none⟩ = some (.bool t2) := (blk_cell bk8 1).trans rfl
    have hf1 := blk_frozen bk8 1
    have H13 := Aside0.mk (And.intro bk8 bw8)
    clear bk8 bw8
    go_upto_region 15 with fail
    have bk8 : (w13.setCell ⟨g8, 1, none⟩ (.bool true)).heap[g8]? = some (.cells #[.bool t1, .bool true, .int .i64 255, .int .i64 t4, .int .i64 t5, .slice (some ⟨gl, 0, none⟩) L.length cl] 54 (0, 0)) := blk_put (cs := #[.bool t1, .bool t2, .int .i64 255, .int .i64 t4, .int .i64 t5, .slice (some ⟨gl, 0, none⟩) L.length cl]) H13.out.1 1 _ rfl
    have bw8 : Below w11.heap.size w11 (w13.setCell ⟨g8, 1, none⟩ (.bool true)) := H13.out.2.setCell (p := ⟨g8, 1, none⟩) (by show w11.heap.size ≤ g8; rw [H12.out.2.2]; exact Nat.le_refl _) _
    clear hq1 hf1
    generalize w13.setCell ⟨g8, 1, none⟩ (.bool true) = w14 at *
    have bk6 := blk_b H11.out.2.1 bw8
    have bk7 := blk_b H11.out.2.2.2.1 bw8
    have N14 := Kd.N_reads' (Kd.N_below H11.out.2.2.2.2.1 bw8)
    have N14l := Kd.N_reads' (Kd.N_below H11.out.2.2.2.2.2 bw8)
    have hX2 : X = rd_T27 L 0 := H8.out.2.2.2.1
    have y2 := HYY.out.2.1
    rw [← hX2] at y2
    have elen : ([X] ++ L).length = L.length + 1 := by simp
    rw [elen] at N14
    have B14 := blw_t H11.out.1 bw8
    have h40a := impl_BatchValid.calls k t1 t2 t3 t4 t5 Ae ce [] false w14 (C_zero _ _ H6.out.1.2) H6.out.1.1 HYY.out.1
    have h40b := fun w15 (hb : Below w14.heap.size w14 w15) => impl_BatchValid.calls k t1 t2 t3 t4 t5 A10 c10 ([X] ++ L) false w15 (by have := Kd.C_below N14.2.2 hb; rw [elen]; exact this) (by rw [elen]; exact N14.2.1) y2
    have h40c := fun w15 (hb : Below w14.heap.size w14 w15) => impl_BatchValid.calls k t1 true 255 t4 t5 (some ⟨gl, 0, none⟩) cl L false w15 (Kd.C_below N14l.2.2 hb) N14l.2.1 HYY.out.2.2
    simp only [List.length_nil] at h40a
    have h40b' : ∀ w15, Below w14.heap.size w14 w15 → Calls Try.prog 40 #[.agg #[.bool t1, .bool t2, .int .i64 t3, .int .i64 t4, .int .i64 t5, .slice A10 (L.length + 1) c10]] w15 fun e w' => e = .returned (.bool false) ∧ Below w15.heap.size w15 w' := fun w15 hb => by have := h40b w15 hb; rw [elen] at this; exact this
    clear h40b
    have hp0 : w14.cell? ⟨g6, 0, none⟩ = some (.bool t1) := (blk_cell bk6 0).trans rfl
    have hp1 : w14.cell? ⟨g6, 1, none⟩ = some (.bool t2) := (blk_cell bk6 1).trans rfl
    have hp2 : w14.cell? ⟨g6, 2, none⟩ = some (.int .i64 t3) := (blk_cell bk6 2).trans rfl
    have hp3 : w14.cell? ⟨g6, 3, none⟩ = some (.int .i64 t4) := (blk_cell bk6 3).trans rfl
    have hp4 : w14.cell? ⟨g6, 4, none⟩ = some (.int .i64 t5) := (blk_cell bk6 4).trans rfl
    have hp5 : w14.cell? ⟨g6, 5, none⟩ = some (.slice Ae 0 ce) := (blk_cell bk6 5).trans rfl
    have hq0 : w14.cell? ⟨g7, 0, none⟩ = some (.bool t1) := (blk_cell bk7 0).trans rfl
    have hq1 : w14.cell? ⟨g7, 1, none⟩ = some (.bool t2) := (blk_cell bk7 1).trans rfl
    have hq2 : w14.cell? ⟨g7, 2, none⟩ = some (.int .i64 t3) := (blk_cell bk7 2).trans rfl
    have hq3 : w14.cell? ⟨g7, 3, none⟩ = some (.int .i64 t4) := (blk_cell bk7 3).trans rfl
    have hq4 : w14.cell? ⟨g7, 4, none⟩ = some (.int .i64 t5) := (blk_cell bk7 4).trans rfl
    have hq5 : w14.cell? ⟨g7, 5, none⟩ = some (.slice A10 (L.length + 1) c10) := (blk_cell bk7 5).trans rfl
    have hr0 : w14.cell? ⟨g8, 0, none⟩ = some (.bool t1) := (blk_cell bk8 0).trans rfl
    have hr1 : w14.cell? ⟨g8, 1, none⟩ = some (.bool true) := (blk_cell bk8 1).trans rfl
    have hr2 : w14.cell? ⟨g8, 2, none⟩ = some (.int .i64 255) := (blk_cell bk8 2).trans rfl
    have hr3 : w14.cell? ⟨g8, 3, none⟩ = some (.int .i64 t4) := (blk_cell bk8 3).trans rfl
    have hr4 : w14.cell? ⟨g8, 4, none⟩ = some (.int .i64 t5) := (blk_cell bk8 4).trans rfl
    have hr5 : w14.cell? ⟨g8, 5, none⟩ = some (.slice (some ⟨gl, 0, none⟩) L.length cl) := (blk_cell bk8 5).trans rfl
    have HC := Aside0.mk (And.intro bk7 (And.intro bk8 B14))
    clear bk6 bk7 bk8 bw8 N14 N14l hX2 y2 elen B14
    go_wp2_with (first
      | (go_at_call 40; (with_reducible refine h40a.mono ?_); rintro e w15 ⟨rfl, hb15⟩; (have hq0 := cell_b hq0 hb15; have hq1 := cell_b hq1 hb15; have hq2 := cell_b hq2 hb15; have hq3 := cell_b hq3 hb15; have hq4 := cell_b hq4 hb15; have hq5 := cell_b hq5 hb15); (have hr0 := cell_b hr0 hb15; have hr1 := cell_b hr1 hb15; have hr2 := cell_b hr2 hb15; have hr3 := cell_b hr3 hb15; have hr4 := cell_b hr4 hb15; have hr5 := cell_b hr5 hb15))
      | (go_at_call 40; (with_reducible refine (h40b' _ hb15).mono ?_); rintro e w16 ⟨rfl, hb16⟩; (have hr0 := cell_b hr0 hb16; have hr1 := cell_b hr1 hb16; have hr2 := cell_b hr2 hb16; have hr3 := cell_b hr3 hb16; have hr4 := cell_b hr4 hb16; have hr5 := cell_b hr5 hb16))
      | (go_at_call 40; (with_reducible refine (h40c _ (blw_t hb15 hb16)).mono ?_); rintro e w17 ⟨rfl, hb17⟩))
    go_ret
    exact ⟨rfl, blw_t HC.out.2.2 (blw_t (blw_t hb15 hb16) hb17)⟩
  · have hok' : ok = false := by simpa using hok
    subst hok'
    go_wp2_with (go_at_call 41; refine h41.mono ?_; rintro e w4 ⟨rfl, hb⟩; have HW := Aside0.mk hb; clear hb h41)
    go_ret
    exact ⟨rfl, blw_t H3.out.2.1 HW.out⟩
def laws_FnBatchPart.Pure : Prop := ∀ (l0 : List Int), l0.length ≤ maxLen → l0.length * 1 ≤ 140737488351232 → (∀ x ∈ l0, (Lit.int .u8 x).wf = true) → ¬ (l0.length : Int) > 1048576 → ∃ k t1 t2 t3 t4 t5 L ok, laws_FnBatchPart.Facts l0 k t1 t2 t3 t4 t5 L ok
theorem laws_FnBatchPart.walk (P : laws_FnBatchPart.Pure) (a0 : Option Addr) (len0 cap0 : Nat) (z0 : List Int) (w : World) (w0 : (a0 = none ∧ len0 = 0 ∧ cap0 = 0 ∧ z0 = []) ∨ ∃ x, a0 = some x ∧ len0 ≤ cap0 ∧ cap0 ≤ maxLen ∧ z0.length = cap0 ∧ (∀ i, i < z0.length → w.cell? (x.add i) = some (.int .u8 (z0.getD i 0))) ∧ ∀ n ∈ z0, (Lit.int .u8 n).wf = true) (y0 : len0 * 1 ≤ 140737488351232) :
    Calls Try.prog 8 #[.slice a0 len0 cap0] w fun e w' => e = .returned (.bool true) ∧ Below w.heap.size w w' := by
  obtain ⟨l0, rfl, hr0, hm0, hw0, hc0⟩ := ReadsInt.ofRowC w0
  by_cases hl : (l0.length : Int) > 1048576
  · exact laws_FnBatchPart.long a0 cap0 l0 w hl
  · obtain ⟨k, t1, t2, t3, t4, t5, L, ok, F⟩ := P l0 hm0 y0 hw0 hl
    exact laws_FnBatchPart.calls k _ _ l0 w (Kd.C_of_reads (d := (0 : Int)) (h1 := fun _ => rfl) hr0) hc0 hl t1 t2 t3 t4 t5 L ok F
end Go.Proofs.Ytdgpkjjclngamaa.QFnBatchPart
