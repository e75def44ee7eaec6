-- Written by this session (the walk of the law, by hand).
import Derived.Test.YtmpnedpokdaejaaQFnTurnx0
import Derived.Test.YtmpnedpokdaejaaQFnTurnx1
import Derived.Test.YtmpnedpokdaejaaQFnTurnx2
import Derived.Test.YtmpnedpokdaejaaQFnTurnx3
import Derived.Test.YtmpnedpokdaejaaQFnTurnx4
import Derived.Test.YtmpnedpokdaejaaQFnTurnx5
import Derived.Test.YtmpnedpokdaejaaQFnTurnx6
import Derived.Test.YtmpnedpokdaejaaQFnTurnx7
import Derived.Test.YtmpnedpokdaejaaQFnTurnx8
import Derived.Test.YtmpnedpokdaejaaQFnTurnx9
namespace Go.Proofs.Ytmpnedpokdaejaa.QFnTurn
open Go.RowKit Go.Proofs.YtmpnedpokdaejaaW.PrintWords Go.Proofs.YtmpnedpokdaejaaW.PrintLast Go.Proofs.YtmpnedpokdaejaaW.PrintMore
set_option linter.unusedVariables false
set_option linter.unusedSimpArgs false
/-- What the law's calls tell: numbers and lists alone. -/
structure laws_FnTurn.Facts (l0 : List Int) (k : Nat) (xs : List S26) (pk r1 r2 : Bool) (r3 r4 r5 : Int) (r6 : List S57) (r7 : Bool) : Prop where
  draw : spec_DrawOldTurn.f k l0 = some (xs, pk)
  imp : impl_OldTurn.f k xs pk = some (r1, r2, r3, r4, r5, r6, r7)
  spec : spec_OldTurn.f k xs pk = some (r1, r2, r3, r4, r5, r6, r7)
  same : laws_sameBatch.f k r1 r2 r3 r4 r5 r6 r1 r2 r3 r4 r5 r6 = some true
  small : xs.length ≤ 1000
  yes : r7 = true → r3 = 255 ∧ r1 = pk ∧ r6.length = xs.length ∧ impl_BatchValid.f k r1 r2 r3 r4 r5 r6 = some true
  each : r7 = true → ∀ j : Nat, j < xs.length → (rd_T57 r6 j).f0 = (rd_T26 xs j).f0 ∧ (rd_T57 r6 j).f1 = (rd_T26 xs j).f2 ∧ (rd_T57 r6 j).f2 = (rd_T26 xs j).f5 ∧ (rd_T57 r6 j).f4 = (!(rd_T26 xs j).f6) ∧ (rd_T57 r6 j).f3 = (rd_T26 xs j).f3 ∧ (rd_T57 r6 j).f5 = (rd_T26 xs j).f4 ∧ laws_sameInts.f k (rd_T26 xs j).f3 (rd_T26 xs j).f3 = some true ∧ laws_sameInts.f k (rd_T26 xs j).f4 (rd_T26 xs j).f4 = some true
theorem blk_new (w : World) (cs : Array Value) (t : TypeId) : (w.alloc (.cells cs t)).heap[w.heap.size]? = some (.cells cs t (0, 0)) := by
  show (w.heap.push _)[w.heap.size]? = _
  simp
theorem blk_b {w w1 : World} {g : Nat} {o : Obj} (h : w.heap[g]? = some o) (hb : Below w.heap.size w w1) : w1.heap[g]? = some o := (hb.block g (Array.getElem?_eq_some_iff.1 h).1).trans h
theorem blw_new (w : World) (o : Obj) : Below w.heap.size w (w.alloc o) := below_alloc (Below.refl _ _) o
theorem cell_b {w w1 : World} {p : Addr} {v : Value} (h : w.cell? p = some v) (hb : Below w.heap.size w w1) : w1.cell? p = some v := by
  have hlt := World.block_lt_of_cell? w p h
  rw [← h]
  simp only [World.cell?, hb.block p.block hlt]
theorem blw_t {a b c : World} (h : Below a.heap.size a b) (k : Below b.heap.size b c) : Below a.heap.size a c := h.trans (k.mono h.size)
set_option maxHeartbeats 4000000 in
set_option maxRecDepth 100000 in
theorem laws_FnTurn.long (A0 : Option Addr) (c0 : Nat) (l0 : List Int) (w : World) (h : (l0.length : Int) > 1048576) :
    Calls Try.prog 8 #[.slice A0 l0.length c0] w fun e w' => e = .returned (.bool true) ∧ Below w.heap.size w w' := by
  have c2b0 : decide (1048576 < (l0.length : Int)) = true := decide_eq_true h
  have c2b1 : decide (1048576 < l0.length) = true := decide_eq_true (by omega)
  go_enter Try.func8, Try.ntmps8
  go_wp2
  go_ret
  exact ⟨rfl, Below.refl _ _⟩
set_option maxHeartbeats 8000000 in
set_option maxRecDepth 100000 in
theorem laws_FnTurn.calls (k : Nat) (A0 : Option Addr) (c0 : Nat) (l0 : List Int) (w : World) (hr0 : Kd.C (Kd.int .u8) w A0 l0.length l0) (hc0 : l0.length ≤ c0) (hl : ¬ (l0.length : Int) > 1048576)
    (xs : List S26) (pk r1 r2 : Bool) (r3 r4 r5 : Int) (r6 : List S57) (r7 : Bool) (F : laws_FnTurn.Facts l0 k xs pk r1 r2 r3 r4 r5 r6 r7) :
    Calls Try.prog 8 #[.slice A0 l0.length c0] w fun e w' => e = .returned (.bool true) ∧ Below w.heap.size w w' := by
  have c2b0 : decide (1048576 < (l0.length : Int)) = false := decide_eq_false hl
  have c2b1 : decide (1048576 < l0.length) = false := decide_eq_false (by omega)
  have FF := Aside0.mk F
  clear F
  have hu39 := Try.underlying39
  have hu57 := Try.underlying57
  have hu26 := Try.underlying26
  have h36 := spec_DrawOldTurn.calls k A0 c0 l0 xs pk w hr0 hc0 FF.out.draw
  have HL0 := Aside0.mk hl
  clear hr0 hc0 hl
  go_enter Try.func8, Try.ntmps8
  go_upto_region 4 with (go_at_call 36; refine h36.mono ?_; rintro e w1 ⟨v, rfl, hS, hb⟩; (obtain ⟨Ax, cx, rfl⟩ := Kd.S_slice hS); have HX := Aside0.mk (And.intro (Kd.S_reads' hS).2 hb); clear hS hb h36)
  have h25 := impl_OldTurn.calls k Ax cx xs pk r1 r2 r3 r4 r5 r6 r7 w1 HX.out.1.2 HX.out.1.1 FF.out.imp
  go_upto_region 5 with (go_at_call 25; refine h25.mono ?_; rintro e w2 ⟨v, rfl, hS, hb⟩; (obtain ⟨Ar, cr, rfl⟩ := Kd.S_slice hS); have HY := Aside0.mk (And.intro (Kd.S_reads' hS).2 hb); clear hS hb h25)
  have hbk : (w2.alloc (.cells #[.bool r1, .bool r2, .int .i64 r3, .int .i64 r4, .int .i64 r5, .slice Ar r6.length cr] 39)).heap[w2.heap.size]? = some (.cells #[.bool r1, .bool r2, .int .i64 r3, .int .i64 r4, .int .i64 r5, .slice Ar r6.length cr] 39 (0, 0)) := blk_new _ _ _
  have hbw := blw_new w2 (.cells #[.bool r1, .bool r2, .int .i64 r3, .int .i64 r4, .int .i64 r5, .slice Ar r6.length cr] 39)
  obtain ⟨g, hg⟩ : ∃ g, g = w2.heap.size := ⟨_, rfl⟩
  rw [← hg] at hbk
  generalize w2.alloc (.cells #[.bool r1, .bool r2, .int .i64 r3, .int .i64 r4, .int .i64 r5, .slice Ar r6.length cr] 39) = w3 at *
  have b13 := blw_t HY.out.2 hbw
  have b03 := blw_t HX.out.2 b13
  have C3x := Kd.C_below HX.out.1.2 b13
  have C3r := Kd.C_below HY.out.1.2 hbw
  have h23 := spec_OldTurn.calls k Ax cx xs pk r1 r2 r3 r4 r5 r6 r7 w3 C3x HX.out.1.1 FF.out.spec
  have H3 := Aside0.mk (And.intro hbk (And.intro b03 (And.intro C3x C3r)))
  rw [← hg]
  clear hbk hbw b13 b03 C3x C3r hg
  go_upto_region 6 with (go_at_call 23; refine h23.mono ?_; rintro e w4 ⟨v, rfl, hS, hb⟩; (obtain ⟨As, cs_, rfl⟩ := Kd.S_slice hS); have HZ := Aside0.mk (And.intro (Kd.S_reads' hS).2 hb); clear hS hb h23)
  have hbk : (w4.alloc (.cells #[.bool r1, .bool r2, .int .i64 r3, .int .i64 r4, .int .i64 r5, .slice As r6.length cs_] 39)).heap[w4.heap.size]? = some (.cells #[.bool r1, .bool r2, .int .i64 r3, .int .i64 r4, .int .i64 r5, .slice As r6.length cs_] 39 (0, 0)) := blk_new _ _ _
  have hbw := blw_new w4 (.cells #[.bool r1, .bool r2, .int .i64 r3, .int .i64 r4, .int .i64 r5, .slice As r6.length cs_] 39)
  obtain ⟨g2, hg⟩ : ∃ g, g = w4.heap.size := ⟨_, rfl⟩
  rw [← hg] at hbk
  generalize w4.alloc (.cells #[.bool r1, .bool r2, .int .i64 r3, .int .i64 r4, .int .i64 r5, .slice As r6.length cs_] 39) = w5 at *
  have b35 := blw_t HZ.out.2 hbw
  have b05 := blw_t H3.out.2.1 b35
  have C5x := Kd.C_below H3.out.2.2.1 b35
  have C5r := Kd.C_below H3.out.2.2.2 b35
  have C5s := Kd.C_below HZ.out.1.2 hbw
  have BK1 := blk_b H3.out.1 b35
  have hz0 : w5.cell? ⟨g, 0, none⟩ = some (.bool r1) := (blk_cell BK1 0).trans rfl
  have hz1 : w5.cell? ⟨g, 1, none⟩ = some (.bool r2) := (blk_cell BK1 1).trans rfl
  have hz2 : w5.cell? ⟨g, 2, none⟩ = some (.int .i64 r3) := (blk_cell BK1 2).trans rfl
  have hz3 : w5.cell? ⟨g, 3, none⟩ = some (.int .i64 r4) := (blk_cell BK1 3).trans rfl
  have hz4 : w5.cell? ⟨g, 4, none⟩ = some (.int .i64 r5) := (blk_cell BK1 4).trans rfl
  have hz5 : w5.cell? ⟨g, 5, none⟩ = some (.slice Ar r6.length cr) := (blk_cell BK1 5).trans rfl
  have hy0 : w5.cell? ⟨g2, 0, none⟩ = some (.bool r1) := (blk_cell hbk 0).trans rfl
  have hy1 : w5.cell? ⟨g2, 1, none⟩ = some (.bool r2) := (blk_cell hbk 1).trans rfl
  have hy2 : w5.cell? ⟨g2, 2, none⟩ = some (.int .i64 r3) := (blk_cell hbk 2).trans rfl
  have hy3 : w5.cell? ⟨g2, 3, none⟩ = some (.int .i64 r4) := (blk_cell hbk 3).trans rfl
  have hy4 : w5.cell? ⟨g2, 4, none⟩ = some (.int .i64 r5) := (blk_cell hbk 4).trans rfl
  have hy5 : w5.cell? ⟨g2, 5, none⟩ = some (.slice As r6.length cs_) := (blk_cell hbk 5).trans rfl
  have h37 := laws_sameBatch.calls k r1 r2 r3 r4 r5 Ar cr r6 r1 r2 r3 r4 r5 As cs_ r6 true w5 C5r HY.out.1.1 C5s HZ.out.1.1 FF.out.same
  have H5 := Aside0.mk (And.intro BK1 (And.intro b05 (And.intro C5x C5r)))
  have H5s := Aside0.mk (And.intro hbk C5s)
  rw [← hg]
  clear hbk hbw b35 b05 C5x C5r C5s BK1 hg
  by_cases h7 : r7 = true
  · subst h7
    obtain ⟨y3, y1, y6, ybv⟩ := FF.out.yes rfl
    have EA := Aside0.mk (FF.out.each rfl)
    have YB := Aside0.mk (And.intro y6 ybv)
    subst y3
    subst y1
    clear y6 ybv
    go_upto_region 8 with (go_at_call 37; refine h37.mono ?_; rintro e w6 ⟨rfl, hb⟩; have HW := Aside0.mk hb; clear hb h37)
    have B6 := Aside0.mk (blw_t H5.out.2.1 HW.out)
    have BK1 := Aside0.mk (blk_b H5.out.1 HW.out)
    have C6x := Aside0.mk (Kd.C_below H5.out.2.2.1 HW.out)
    have C6r := Aside0.mk (Kd.C_below H5.out.2.2.2 HW.out)
    have hsm := FF.out.small
    have HSM := Aside0.mk hsm
    clear hz0 hz1 hz2 hz3 hz4 hz5 hy0 hy1 hy2 hy3 hy4 hy5 H5 H5s hsm
    go_wp2
    go_loopg [9] (xs.length + 1) (fun kq v9 w' => ∃ j : Nat, v9 = .int .i64 (j : Int) ∧ Aside0 (j ≤ xs.length ∧ kq + j = xs.length + 1) ∧ Aside0 (Below w6.heap.size w6 w'))
    case atStart => exact ⟨0, rfl, ⟨by omega, by omega⟩, ⟨Below.refl _ _⟩⟩
    case round =>
      obtain ⟨j, rfl, HJ, HR⟩ := hrel
      cases gk with
      | zero => exact absurd HJ.out (by omega)
      | succ k1 =>
      have BKr := blk_b BK1.out HR.out
      have hz0 : wr.cell? ⟨g, 0, none⟩ = some (.bool r1) := (blk_cell BKr 0).trans rfl
      have hz1 : wr.cell? ⟨g, 1, none⟩ = some (.bool r2) := (blk_cell BKr 1).trans rfl
      have hz2 : wr.cell? ⟨g, 2, none⟩ = some (.int .i64 255) := (blk_cell BKr 2).trans rfl
      have hz3 : wr.cell? ⟨g, 3, none⟩ = some (.int .i64 r4) := (blk_cell BKr 3).trans rfl
      have hz4 : wr.cell? ⟨g, 4, none⟩ = some (.int .i64 r5) := (blk_cell BKr 4).trans rfl
      have hz5 : wr.cell? ⟨g, 5, none⟩ = some (.slice Ar r6.length cr) := (blk_cell BKr 5).trans rfl
      by_cases hj : j < xs.length
      · have d1 : decide ((j : Int) < (xs.length : Int)) = true := decide_eq_true (by omega)
        have d1n : decide (j < xs.length) = true := decide_eq_true hj
        have q1 : (j < xs.length) = True := eq_true hj
        have q2 : (j < r6.length) = True := eq_true (by rw [YB.out.1]; exact hj)
        have wj : wrap64 ((j : Int) + 1) = (j : Int) + 1 := by have := HSM.out; unfold wrap64; omega
        have wj' : IntKind.i64.wrap ((j : Int) + 1) = (j : Int) + 1 := (i64_w _).trans wj
        have Crr := Kd.C_below C6r.out HR.out
        have Crx := Kd.C_below C6x.out HR.out
        obtain ⟨adr, K3, k3, K5, k5, er, hr0, hr1, hr2, hr3, hr4, hr5, hrl3, hrc3, hrl5, hrc5⟩ := at_T57 Crr (j : Int) (by omega) (by rw [YB.out.1]; omega)
        obtain ⟨adx, X3, x3, X4, x4, ex, hx0, hx1, hx2, hx3, hx4, hx5, hx6, hxl3, hxc3, hxl4, hxc4⟩ := at_T26 Crx (j : Int) (by omega) (by omega)
        obtain ⟨e0, e1, e2, e4, e3, e5, s3, s4⟩ := EA.out j hj
        subst er
        subst ex
        rw [e0] at hr0
        rw [e1] at hr1
        rw [e2] at hr2
        rw [e4] at hr4
        rw [e3] at hr3 hrl3 hrc3
        rw [e5] at hr5 hrl5 hrc5
        simp only [Int.toNat_natCast] at hr0 hr1 hr2 hr3 hr4 hr5 hx0 hx1 hx2 hx3 hx4 hx5 hx6
        generalize rd_T26 xs (j : Int) = X at *
        have HRE := Aside0.mk (And.intro hrl3 (And.intro hrc3 (And.intro hrl5 hrc5)))
        have HXE := Aside0.mk (And.intro hxl3 (And.intro hxc3 (And.intro hxl4 hxc4)))
        have HS := Aside0.mk (And.intro s3 s4)
        have HJ2 := Aside0.mk hj
        have hmm : (X.f6 == !X.f6) = false := by cases X.f6 <;> rfl
        have hmm2 : ((!X.f6) == X.f6) = false := by cases X.f6 <;> rfl
        clear e0 e1 e2 e3 e4 e5 s3 s4 hrl3 hrc3 hrl5 hrc5 hxl3 hxc3 hxl4 hxc4 hj Crr Crx
        go_upto_region 12 with fail
        have bkr := blk_new wr #[.int .i64 X.f0, .int .i64 X.f2, .bool X.f5, .slice K3 X.f3.length k3, .bool (!X.f6), .slice K5 X.f4.length k5] 57
        have bwr := blw_new wr (.cells #[.int .i64 X.f0, .int .i64 X.f2, .bool X.f5, .slice K3 X.f3.length k3, .bool (!X.f6), .slice K5 X.f4.length k5] 57)
        have hx0 := cell_b hx0 bwr
        have hx1 := cell_b hx1 bwr
        have hx2 := cell_b hx2 bwr
        have hx3 := cell_b hx3 bwr
        have hx4 := cell_b hx4 bwr
        have hx5 := cell_b hx5 bwr
        have hx6 := cell_b hx6 bwr
        clear hr0 hr1 hr2 hr3 hr4 hr5 hz0 hz1 hz2 hz3 hz4 hz5 BKr
        obtain ⟨gr, hgr⟩ : ∃ g, g = wr.heap.size := ⟨_, rfl⟩
        rw [← hgr] at bkr
        generalize wr.alloc (.cells #[.int .i64 X.f0, .int .i64 X.f2, .bool X.f5, .slice K3 X.f3.length k3, .bool (!X.f6), .slice K5 X.f4.length k5] 57) = wa at *
        rw [← hgr]
        have HA := Aside0.mk (And.intro bkr bwr)
        clear hgr bkr bwr
        go_upto_region 13 with fail
        have bkx := blk_new wa #[.int .i64 X.f0, .bool X.f1, .int .i64 X.f2, .slice X3 X.f3.length x3, .slice X4 X.f4.length x4, .bool X.f5, .bool X.f6] 26
        have bwx := blw_new wa (.cells #[.int .i64 X.f0, .bool X.f1, .int .i64 X.f2, .slice X3 X.f3.length x3, .slice X4 X.f4.length x4, .bool X.f5, .bool X.f6] 26)
        clear hx0 hx1 hx2 hx3 hx4 hx5 hx6
        obtain ⟨gx, hgx⟩ : ∃ g, g = wa.heap.size := ⟨_, rfl⟩
        rw [← hgx] at bkx
        generalize wa.alloc (.cells #[.int .i64 X.f0, .bool X.f1, .int .i64 X.f2, .slice X3 X.f3.length x3, .slice X4 X.f4.length x4, .bool X.f5, .bool X.f6] 26) = wb at *
        rw [← hgx]
        have bkr := blk_b HA.out.1 bwx
        have brb := blw_t HA.out.2 bwx
        have HBW := Aside0.mk (blw_t HR.out brb)
        have hr0 : wb.cell? ⟨gr, 0, none⟩ = some (.int .i64 X.f0) := (blk_cell bkr 0).trans rfl
        have hr1 : wb.cell? ⟨gr, 1, none⟩ = some (.int .i64 X.f2) := (blk_cell bkr 1).trans rfl
        have hr2 : wb.cell? ⟨gr, 2, none⟩ = some (.bool X.f5) := (blk_cell bkr 2).trans rfl
        have hr3 : wb.cell? ⟨gr, 3, none⟩ = some (.slice K3 X.f3.length k3) := (blk_cell bkr 3).trans rfl
        have hr4 : wb.cell? ⟨gr, 4, none⟩ = some (.bool (!X.f6)) := (blk_cell bkr 4).trans rfl
        have hr5 : wb.cell? ⟨gr, 5, none⟩ = some (.slice K5 X.f4.length k5) := (blk_cell bkr 5).trans rfl
        have hx0 : wb.cell? ⟨gx, 0, none⟩ = some (.int .i64 X.f0) := (blk_cell bkx 0).trans rfl
        have hx2 : wb.cell? ⟨gx, 2, none⟩ = some (.int .i64 X.f2) := (blk_cell bkx 2).trans rfl
        have hx3 : wb.cell? ⟨gx, 3, none⟩ = some (.slice X3 X.f3.length x3) := (blk_cell bkx 3).trans rfl
        have hx4 : wb.cell? ⟨gx, 4, none⟩ = some (.slice X4 X.f4.length x4) := (blk_cell bkx 4).trans rfl
        have hx5 : wb.cell? ⟨gx, 5, none⟩ = some (.bool X.f5) := (blk_cell bkx 5).trans rfl
        have hx6 : wb.cell? ⟨gx, 6, none⟩ = some (.bool X.f6) := (blk_cell bkx 6).trans rfl
        have h21a := laws_sameInts.calls k K3 k3 X.f3 X3 x3 X.f3 true wb (Kd.C_below HRE.out.2.1 brb) HRE.out.1 (Kd.C_below HXE.out.2.1 brb) HXE.out.1 HS.out.1
        have h21b := fun m => laws_sameInts.calls k K5 k5 X.f4 X4 x4 X.f4 true (wb.drewN m) (Kd.C_drewN (Kd.C_below HRE.out.2.2.2 brb) m) HRE.out.2.2.1 (Kd.C_drewN (Kd.C_below HXE.out.2.2.2 brb) m) HXE.out.2.2.1 HS.out.2
        clear bkr bkx bwx brb hgx HA
        go_wp2_with (first | (go_at_call 21; (with_reducible refine h21a.mono ?_); rintro e _ ⟨rfl, ⟨m1, rfl⟩⟩) | (go_at_call 21; (with_reducible refine (h21b m1).mono ?_); rintro e _ ⟨rfl, ⟨m2, rfl⟩⟩))
        go_roundg k1
        case measure => omega
        case rel => exact ⟨j + 1, by simp, ⟨by have := HJ.out; have := HJ2.out; omega⟩, ⟨pw_below_drewN HBW.out (m1 + m2)⟩⟩
      · have d1 : decide ((j : Int) < (xs.length : Int)) = false := decide_eq_false (by omega)
        have d1n : decide (j < xs.length) = false := decide_eq_false hj
        have hlen : (r6.length : Int) = (xs.length : Int) := by have := YB.out.1; omega
        have h38 := impl_BatchValid.calls k r1 r2 255 r4 r5 Ar cr r6 true wr (Kd.C_below C6r.out HR.out) HY.out.1.1 YB.out.2
        have BKR := Aside0.mk BKr
        have hlen2 : (((r6.length : Int)) == ((xs.length : Int))) = true := by rw [hlen]; simp
        have hlen3 : ((r6.length) == (xs.length)) = true := by rw [YB.out.1]; simp
        clear BKr
        go_wp2_with (go_at_call 38; refine h38.mono ?_; rintro e w9 ⟨rfl, hb⟩; have BK9 := blk_b BKR.out hb; have hv0 : w9.cell? ⟨g, 0, none⟩ = some (.bool r1) := (blk_cell BK9 0).trans rfl; have hv2 : w9.cell? ⟨g, 2, none⟩ = some (.int .i64 255) := (blk_cell BK9 2).trans rfl; have hv5 : w9.cell? ⟨g, 5, none⟩ = some (.slice Ar r6.length cr) := (blk_cell BK9 5).trans rfl; have HV := Aside0.mk hb; clear hb BK9)
        go_ret
        exact ⟨by first | rfl | simp [YB.out.1], blw_t (blw_t B6.out HR.out) HV.out⟩
  · have h7' : r7 = false := by simpa using h7
    subst h7'
    have h37b := fun w6 (hb : Below w5.heap.size w5 w6) => laws_sameBatch.calls k r1 r2 r3 r4 r5 Ar cr r6 r1 r2 r3 r4 r5 As cs_ r6 true w6 (Kd.C_below H5.out.2.2.2 hb) HY.out.1.1 (Kd.C_below H5s.out.2 hb) HZ.out.1.1 FF.out.same
    go_upto_region 7 with (go_at_call 37; refine h37.mono ?_; rintro e w6 ⟨rfl, hb⟩; have HW := Aside0.mk hb; clear hb h37)
    have BK1 := blk_b H5.out.1 HW.out
    have BK2 := blk_b H5s.out.1 HW.out
    have h37 := h37b w6 HW.out
    clear h37b hz0 hz1 hz2 hz3 hz4 hz5 hy0 hy1 hy2 hy3 hy4 hy5
    have hz0 : w6.cell? ⟨g, 0, none⟩ = some (.bool r1) := (blk_cell BK1 0).trans rfl
    have hz1 : w6.cell? ⟨g, 1, none⟩ = some (.bool r2) := (blk_cell BK1 1).trans rfl
    have hz2 : w6.cell? ⟨g, 2, none⟩ = some (.int .i64 r3) := (blk_cell BK1 2).trans rfl
    have hz3 : w6.cell? ⟨g, 3, none⟩ = some (.int .i64 r4) := (blk_cell BK1 3).trans rfl
    have hz4 : w6.cell? ⟨g, 4, none⟩ = some (.int .i64 r5) := (blk_cell BK1 4).trans rfl
    have hz5 : w6.cell? ⟨g, 5, none⟩ = some (.slice Ar r6.length cr) := (blk_cell BK1 5).trans rfl
    have hy0 : w6.cell? ⟨g2, 0, none⟩ = some (.bool r1) := (blk_cell BK2 0).trans rfl
    have hy1 : w6.cell? ⟨g2, 1, none⟩ = some (.bool r2) := (blk_cell BK2 1).trans rfl
    have hy2 : w6.cell? ⟨g2, 2, none⟩ = some (.int .i64 r3) := (blk_cell BK2 2).trans rfl
    have hy3 : w6.cell? ⟨g2, 3, none⟩ = some (.int .i64 r4) := (blk_cell BK2 3).trans rfl
    have hy4 : w6.cell? ⟨g2, 4, none⟩ = some (.int .i64 r5) := (blk_cell BK2 4).trans rfl
    have hy5 : w6.cell? ⟨g2, 5, none⟩ = some (.slice As r6.length cs_) := (blk_cell BK2 5).trans rfl
    clear BK1 BK2
    go_wp2_with (go_at_call 37; refine h37.mono ?_; rintro e w7 ⟨rfl, hb⟩; have HV := Aside0.mk hb; clear hb)
    go_ret
    exact ⟨rfl, blw_t (blw_t H5.out.2.1 HW.out) HV.out⟩
def laws_FnTurn.Pure : Prop := ∀ (l0 : List Int), l0.length ≤ maxLen → l0.length * 1 ≤ 140737488351232 → (∀ x ∈ l0, (Lit.int .u8 x).wf = true) → ¬ (l0.length : Int) > 1048576 → ∃ k xs pk r1 r2 r3 r4 r5 r6 r7, laws_FnTurn.Facts l0 k xs pk r1 r2 r3 r4 r5 r6 r7
theorem laws_FnTurn.walk (P : laws_FnTurn.Pure) (a0 : Option Addr) (len0 cap0 : Nat) (z0 : List Int) (w : World) (w0 : (a0 = none ∧ len0 = 0 ∧ cap0 = 0 ∧ z0 = []) ∨ ∃ x, a0 = some x ∧ len0 ≤ cap0 ∧ cap0 ≤ maxLen ∧ z0.length = cap0 ∧ (∀ i, i < z0.length → w.cell? (x.add i) = some (.int .u8 (z0.getD i 0))) ∧ ∀ n ∈ z0, (Lit.int .u8 n).wf = true) (y0 : len0 * 1 ≤ 140737488351232) :
    Calls Try.prog 8 #[.slice a0 len0 cap0] w fun e w' => e = .returned (.bool true) ∧ Below w.heap.size w w' := by
  obtain ⟨l0, rfl, hr0, hm0, hw0, hc0⟩ := ReadsInt.ofRowC w0
  by_cases hl : (l0.length : Int) > 1048576
  · exact laws_FnTurn.long a0 cap0 l0 w hl
  · obtain ⟨k, xs, pk, r1, r2, r3, r4, r5, r6, r7, F⟩ := P l0 hm0 y0 hw0 hl
    exact laws_FnTurn.calls k _ _ l0 w (Kd.C_of_reads (d := (0 : Int)) (h1 := fun _ => rfl) hr0) hc0 hl xs pk r1 r2 r3 r4 r5 r6 r7 F
end Go.Proofs.Ytmpnedpokdaejaa.QFnTurn
