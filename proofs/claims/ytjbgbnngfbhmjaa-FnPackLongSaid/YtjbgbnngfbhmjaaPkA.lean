import Derived.Test.YtjbgbnngfbhmjaaProg
import Derived.Below
import Derived.Deep.Draws
import Derived.Deep.AppendLies
import Derived.Maps.AppendAt
import Derived.OwnWalk
import Derived.Laws.BytesArg
import Derived.Laws.MakeOwn
import Derived.Laws.OwnMore
import Derived.Deep.OwnRows
import Derived.Tactics
import Derived.Lib.ConvBytes
import Derived.Laws.Slices
import Derived.WalkKit
import Derived.KernelRfl
import Derived.RowKit3
import Derived.Deep.LoopGhost
import Derived.Deep.QuietTactic
import Derived.BigQuiet
import Derived.WideLaws
import Derived.Deep.DeepCutAuto
import Derived.Deep.CutBlock
import Derived.Deep.RegionHeld3
import Derived.Laws.Rows
import Derived.Lib.AppendStr
import Derived.ArgAppend
import Derived.Laws.IdiomCopy
import Derived.OrdersHeld
import Derived.Laws.BitsLemmas
import Derived.RowKit
import Derived.Test.YtjbgbnngfbhmjaaWWords
import Derived.Test.YtjbgbnngfbhmjaaWLast
import Derived.Test.YtjbgbnngfbhmjaaWTab
import Derived.Test.YtjbgbnngfbhmjaaWFour
import Derived.Test.YtjbgbnngfbhmjaaWQPut
import Derived.Test.YtjbgbnngfbhmjaaWApart
import Derived.Test.YtjbgbnngfbhmjaaWArr
import Derived.Test.YtjbgbnngfbhmjaaWZeros
import Derived.Test.YtjbgbnngfbhmjaaWFoot
import Derived.Test.YtjbgbnngfbhmjaaWKept
import Derived.Test.YtjbgbnngfbhmjaaWShare
import Derived.Test.YtjbgbnngfbhmjaaWN
import Derived.Test.YtjbgbnngfbhmjaaWFootNe
import Derived.Test.YtjbgbnngfbhmjaaWAt
import Derived.Test.YtjbgbnngfbhmjaaWEqStruct
import Derived.Test.YtjbgbnngfbhmjaaWRepsOne
import Derived.Test.YtjbgbnngfbhmjaaWInv
import Derived.Test.YtjbgbnngfbhmjaaWInvWords
import Derived.Test.YtjbgbnngfbhmjaaWGuard
import Derived.Test.YtjbgbnngfbhmjaaWNEv
import Derived.Test.YtjbgbnngfbhmjaaWMore
import Derived.RangeFuncNested
import Derived.RangeFuncBound
import Derived.RangeFuncCalls
import Derived.RangeFuncLeaves
import Derived.Shelf.Abstract
import Derived.Shelf.RegionOpen
import Derived.OwnWalkIn
import Derived.TacticsInMore
import Derived.LoopNIn
import Derived.LoopIn
namespace Go.Proofs.Ytjbgbnngfbhmjaa.Pk
open Go.RowKit Go.Shelf Go.Proofs.YtjbgbnngfbhmjaaW.PrintWords Go.Proofs.YtjbgbnngfbhmjaaW.PrintLast Go.Proofs.YtjbgbnngfbhmjaaW.PrintMore
set_option linter.unusedVariables false
set_option linter.unusedSimpArgs false
attribute [local go_sem] Oper.semAt_some

theorem info3 : (Try.prog.info? 3).map (fun i => (i.zero, i.size, i.bytes)) = some (some (.int .i64 0), 1, 8) := by kernel_rfl
/-- What has come when k rounds are over. -/
def upto {α : Type} (f : Nat → α) (k : Nat) : List α := (List.range k).map f
theorem upto_succ {α : Type} (f : Nat → α) (k : Nat) : upto f (k + 1) = upto f k ++ [f k] := by simp [upto, List.range_succ]
theorem upto_length {α : Type} (f : Nat → α) (k : Nat) : (upto f k).length = k := by simp [upto]

/-- What a round keeps: what lay below n₀, and the iterator's own box. -/
def KpB (n₀ Bs : Nat) (W W' : World) : Prop := Below n₀ W W' ∧ ∀ v, W.cell? ⟨Bs, 0, none⟩ = some v → W'.cell? ⟨Bs, 0, none⟩ = some v
theorem KpB.t {n₀ Bs : Nat} {A B C : World} (h : KpB n₀ Bs A B) (k : KpB n₀ Bs B C) : KpB n₀ Bs A C := ⟨h.1.trans k.1, fun v hv => k.2 v (h.2 v hv)⟩
theorem KpB.b {n₀ Bs : Nat} {w : World} (hn : n₀ ≤ w.heap.size) (W : World) (l : Nat) (o o' : Obj) (hl : w.heap.size ≤ l) (h : W.heap[l]? = some o) (ho : o.isCells = false) (hw : o.isWalk = false) : KpB n₀ Bs W (W.putObj l o') :=
  ⟨belowK_b hn W l o o' hl h ho hw, fun v hv => by
    rw [← hv]
    have hne : l ≠ Bs := by
      rintro rfl
      simp only [World.cell?, h] at hv
      cases o <;> simp_all [Obj.isCells]
    have e : (W.putObj l o').heap[Bs]? = W.heap[Bs]? := World.putObj_heap_other hne.symm
    simp only [World.cell?, e]⟩

def backF (zs : List Int) (j : Nat) : Int × Int := (((zs.length - 1 - j : Nat) : Int), rd zs ((zs.length - 1 - j : Nat) : Int))

set_option maxRecDepth 100000 in
set_option maxHeartbeats 2000000 in
theorem back1_in (F : Fence) (n : Nat) (h47 : F.fn 47) (hro : F.round = none) (hn : 1 ≤ n) (l Bs : Nat) (A : Option Addr) (c : Nat) (zs : List Int) (hlen : zs.length ≤ 1000000) (w0 : World) (hC : Kd.C (Kd.int .i64) w0 A zs.length zs) (J Jx : List (Int × Int) → World → Prop) (Q : Int × Int → Prop) (hq : ∀ j, j < zs.length → Q (backF zs j))
    (hY : ∀ pre x W, J pre W → pre.length < zs.length → Q x → YieldAt F (n - 1) Try.prog l #[.int .i64 x.1, .int .i64 x.2] W fun e W' =>
      (e = .returned (.bool true) ∧ J (pre ++ [x]) W' ∧ KpB w0.heap.size Bs W W') ∨ (e = .returned (.bool false) ∧ Jx (pre ++ [x]) W'))
    (W : World) (hBs : W.cell? ⟨Bs, 0, none⟩ = some (.slice A zs.length c)) (hW0 : Below w0.heap.size w0 W) (h0 : J [] W) :
    CallsIn F n Try.prog 47 #[.func (.yield l) #[] #[], .pointer (some ⟨Bs, 0, none⟩)] W fun e W' => (∃ v, e = .returned v) ∧
      ((∃ ys, ys = upto (backF zs) zs.length ∧ J ys W') ∨ (∃ pre, (∃ k, k ≤ zs.length ∧ pre = upto (backF zs) k) ∧ Jx pre W')) := by
  refine callsIn_of_wp Try.func47 rfl h47 ?_ hro
  simp only [Try.ntmps47, List.size_toArray, List.length_cons, List.length_nil, Nat.reduceAdd, Nat.reduceSub, Array.replicate_succ, Array.replicate_zero, List.push_toArray, List.append_toArray, List.nil_append, List.cons_append]
  have w1 : wrap64 ((zs.length : Int) - 1) = (zs.length : Int) - 1 := by unfold wrap64; omega
  gi_wp2
  gi_loopw [3] (fun v3 wr => ∃ (k : Nat) (i : Int), v3 = .int .i64 i ∧ Aside0 (i = (zs.length : Int) - 1 - k ∧ k ≤ zs.length) ∧ J (upto (backF zs) k) wr ∧ Below w0.heap.size w0 wr ∧ wr.cell? ⟨Bs, 0, none⟩ = some (.slice A zs.length c))
    (fun i _ => (intOf i + 1).toNat)
  case atStart =>
    exact ⟨0, _, rfl, ⟨by simp, Nat.zero_le _⟩, h0, hW0, hBs⟩
  case round =>
    obtain ⟨k, i, rfl, HI, hJs, hnx, hb⟩ := hrel
    clear w1
    by_cases hi0 : 0 ≤ i
    · have hlt : k < zs.length := by have := HI.out; omega
      have hil : i < (zs.length : Int) := by have := HI.out; omega
      obtain ⟨ad, rfl, hx⟩ := Kd.at_int (Kd.C_below hC hnx) i hi0 hil
      obtain ⟨fn, tmps, assign, body, hy, hR⟩ := hY _ (backF zs k) wr hJs (by rw [upto_length]; exact hlt) (hq k hlt)
      have e1 : (((zs.length - 1 - k : Nat) : Int)) = i := by have := HI.out; omega
      dsimp only [backF] at hy
      rw [e1] at hy
      have p1 := eq_true hi0
      have q1 := eq_true hil
      have d1 : decide (i ≥ 0) = true := decide_eq_true hi0
      have w2 : wrap64 (i - 1) = i - 1 := by have := HI.out; unfold wrap64; omega
      have M := Aside0.mk hi0
      clear e1
      gi_wp2
      refine hR.mono ?_
      rintro e W3 (⟨rfl, hJ3, hk3⟩ | ⟨rfl, hJx3⟩)
      · have hb3 := hk3.2 _ hb
        gi_wp2
        go_roundw
        case rel => exact ⟨k + 1, _, rfl, ⟨by have := HI.out; omega, by omega⟩, by rw [upto_succ]; exact hJ3, hnx.trans hk3.1, hb3⟩
        case measure => have := M.out; simp [intOf]; omega
      · gi_wp2
        refine bodyPost_ret (results_none rfl _ _ _) rfl ?_
        exact ⟨⟨_, rfl⟩, .inr ⟨_, ⟨k + 1, by omega, (upto_succ _ _).symm⟩, hJx3⟩⟩
    · obtain rfl : k = zs.length := by have := HI.out; omega
      have d1 : decide (i ≥ 0) = false := decide_eq_false hi0
      gi_wp2
      go_end0
      first | exact ⟨⟨_, rfl⟩, .inl ⟨_, rfl, hJs⟩⟩ | exact ⟨⟨_, rfl⟩, .inl hJs⟩
set_option maxHeartbeats 1000000 in
/-- slices.Backward(s): the slice value is boxed; the function value captures the box. -/
theorem back_in (F : Fence) (n : Nat) (h46 : F.fn 46) (hro : F.round = none) (a : Option Addr) (len cap : Nat) (w : World) :
    CallsIn F n Try.prog 46 #[.slice a len cap] w fun e w' => e = .returned (.func (.func 47) #[] #[.pointer (some ⟨w.heap.size, 0, none⟩)]) ∧ w' = w.alloc (.cells #[.slice a len cap] 22) := by
  refine callsIn_of_wp Try.func46 rfl h46 ?_ hro
  simp only [Try.ntmps46, List.size_toArray, List.length_cons, List.length_nil, Nat.reduceAdd, Nat.reduceSub, Array.replicate_succ, Array.replicate_zero, List.push_toArray, List.append_toArray, List.nil_append, List.cons_append]
  gi_wp2
  go_ret
  exact ⟨rfl, rfl⟩
end Go.Proofs.Ytjbgbnngfbhmjaa.Pk
