import Derived.Test.YtjbgbnngfbhmjaaPkB
namespace Go.Proofs.Ytjbgbnngfbhmjaa.Pk
open Go.RowKit Go.Shelf Go.Proofs.YtjbgbnngfbhmjaaW.PrintWords Go.Proofs.YtjbgbnngfbhmjaaW.PrintLast Go.Proofs.YtjbgbnngfbhmjaaW.PrintMore
set_option linter.unusedVariables false
set_option linter.unusedSimpArgs false
attribute [local go_sem] Oper.semAt_some max2_int min2_int max_two min_two

/-- A piece of a row, with no room behind it. -/
def pieceV (A : Option Addr) (m k : Nat) : Value := .slice (A.map (·.add (64 * k))) (min 64 (m - 64 * k)) (min 64 (m - 64 * k))
/-- A cell that stays. -/
def KpC (Bs Bn : Nat) (W W' : World) : Prop := (∀ v, W.cell? ⟨Bs, 0, none⟩ = some v → W'.cell? ⟨Bs, 0, none⟩ = some v) ∧ ∀ v, W.cell? ⟨Bn, 0, none⟩ = some v → W'.cell? ⟨Bn, 0, none⟩ = some v
theorem KpC.t {Bs Bn : Nat} {A B C : World} (h : KpC Bs Bn A B) (k : KpC Bs Bn B C) : KpC Bs Bn A C := ⟨fun v hv => k.1 v (h.1 v hv), fun v hv => k.2 v (h.2 v hv)⟩
theorem cell_putObj {W : World} {l B : Nat} {o o' : Obj} {v : Value} (h : W.heap[l]? = some o) (ho : o.isCells = false) (hv : W.cell? ⟨B, 0, none⟩ = some v) : (W.putObj l o').cell? ⟨B, 0, none⟩ = some v := by
  rw [← hv]
  have hne : l ≠ B := by
    rintro rfl
    simp only [World.cell?, h] at hv
    cases o <;> simp_all [Obj.isCells]
  have e : (W.putObj l o').heap[B]? = W.heap[B]? := World.putObj_heap_other hne.symm
  simp only [World.cell?, e]
theorem KpC.b {Bs Bn : Nat} {w : World} (W : World) (l : Nat) (o o' : Obj) (hl : w.heap.size ≤ l) (h : W.heap[l]? = some o) (ho : o.isCells = false) (hw : o.isWalk = false) : KpC Bs Bn W (W.putObj l o') :=
  ⟨fun v hv => cell_putObj h ho hv, fun v hv => cell_putObj h ho hv⟩
set_option maxHeartbeats 1000000 in
/-- slices.Chunk(s, 64): both arguments are boxed; the function value captures the boxes. -/
theorem chunk_in (F : Fence) (n : Nat) (h41 : F.fn 41) (hro : F.round = none) (a : Option Addr) (len cap : Nat) (w : World) :
    CallsIn F n Try.prog 41 #[.slice a len cap, .int .i64 64] w fun e w' => e = .returned (.func (.func 45) #[] #[.pointer (some ⟨w.heap.size, 0, none⟩), .pointer (some ⟨w.heap.size + 1, 0, none⟩)]) ∧
      w' = (w.alloc (.cells #[.slice a len cap] 22)).alloc (.cells #[.int .i64 64] 3) := by
  refine callsIn_of_wp Try.func41 rfl h41 ?_ hro
  simp only [Try.ntmps41, List.size_toArray, List.length_cons, List.length_nil, Nat.reduceAdd, Nat.reduceSub, Array.replicate_succ, Array.replicate_zero, List.push_toArray, List.append_toArray, List.nil_append, List.cons_append]
  gi_wp2
  go_ret
  exact ⟨by first | rfl | simp, by first | rfl | simp⟩
theorem piece_run (A : Option Addr) (m c k : Nat) (hk : 64 * k < m) (hmc : m ≤ c) (W : World) (hi : Int) (hhi : hi = ((64 * k + min 64 (m - 64 * k) : Nat) : Int)) :
    (Instr.slice 22 (.slice A m c) (some (.int .i64 ((64 * k : Nat) : Int))) (some (.int .i64 hi)) (some (.int .i64 hi))).run Try.prog W = .ok (pieceV A m k) W := by
  subst hhi
  obtain ⟨i0, hi0, _, hsz, _⟩ := info_parts info3
  have hel : Try.prog.elem 22 = 3 := by simp [Program.elem, Try.underlying22]
  have hu : Try.prog.underlying 22 = some (.slice (Try.prog.elem 22)) := by rw [hel]; exact Try.underlying22
  rw [run_slice_lhm W 22 A m c hu .i64 .i64 .i64 _ _ _ (by omega) (by omega) (Int.le_refl _) (by omega), hel]
  have e1 : ¬ (64 * k + min 64 (m - 64 * k) = 64 * k) := by omega
  simp only [Int.toNat_natCast]
  simp [sizeOf, typeInfo, hi0, hsz, sliced, Result.andThen, pieceV, e1]
  intro h
  omega
theorem piece_from (A : Option Addr) (m c k : Nat) (hk : 64 * k < m) (hmc : m ≤ c) : ∃ (A' : Option Addr) (c' r : Nat), r = m - 64 * k ∧ ∀ W : World, (Instr.slice 22 (.slice A m c) (some (.int .i64 ((64 * k : Nat) : Int))) none none).run Try.prog W = .ok (.slice A' r c') W := by
  obtain ⟨i0, hi0, _, hsz, _⟩ := info_parts info3
  exact ⟨_, _, _, rfl, fun W => cut_from 22 3 .i64 Try.underlying22 hi0 1 hsz A m c _ (by omega) (by omega) W⟩
set_option maxHeartbeats 2000000 in
theorem chunk1_in (F : Fence) (n : Nat) (h45 : F.fn 45) (hro : F.round = none) (hn : 1 ≤ n) (l Bs Bn : Nat) (A : Option Addr) (m c : Nat) (hmc : m ≤ c) (hlen : m ≤ 1000000) (J Jx : List Nat → World → Prop)
    (hY : ∀ pre k W, J pre W → pre.length < (m + 63) / 64 → 64 * k < m → YieldAt F (n - 1) Try.prog l #[pieceV A m k] W fun e W' =>
      (e = .returned (.bool true) ∧ J (pre ++ [k]) W' ∧ KpC Bs Bn W W') ∨ (e = .returned (.bool false) ∧ Jx (pre ++ [k]) W'))
    (hD : ∀ pre W W', Drawn0 W W' → J pre W → J pre W') (W : World) (hBs : W.cell? ⟨Bs, 0, none⟩ = some (.slice A m c)) (hBn : W.cell? ⟨Bn, 0, none⟩ = some (.int .i64 64)) (h0 : J [] W) :
    CallsIn F n Try.prog 45 #[.func (.yield l) #[] #[], .pointer (some ⟨Bs, 0, none⟩), .pointer (some ⟨Bn, 0, none⟩)] W fun e W' => (∃ v, e = .returned v) ∧
      ((∃ ys, ys = upto id ((m + 63) / 64) ∧ J ys W') ∨ (∃ pre, True ∧ Jx pre W')) := by
  refine callsIn_of_wp Try.func45 rfl h45 ?_ hro
  simp only [Try.ntmps45, List.size_toArray, List.length_cons, List.length_nil, Nat.reduceAdd, Nat.reduceSub, Array.replicate_succ, Array.replicate_zero, List.push_toArray, List.append_toArray, List.nil_append, List.cons_append]
  have hmix : Try.prog.follows .mixedOrders = true := by kernel_rfl
  gi_wp2
  gi_loopw [4] (fun v4 wr => ∃ (k : Nat) (i : Int), v4 = .int .i64 i ∧ Aside0 (i = ((64 * k : Nat) : Int) ∧ k ≤ (m + 63) / 64) ∧ J (upto id k) wr ∧ wr.cell? ⟨Bs, 0, none⟩ = some (.slice A m c) ∧ wr.cell? ⟨Bn, 0, none⟩ = some (.int .i64 64))
    (fun i _ => (1000100 - intOf i).toNat)
  case atStart =>
    exact ⟨0, _, rfl, ⟨by simp, Nat.zero_le _⟩, h0, hBs, hBn⟩
  case round =>
    obtain ⟨k, i, rfl, HI, hJs, hb1, hb2⟩ := hrel
    by_cases hi0 : i < (m : Int)
    · have hlt : 64 * k < m := by have := HI.out; omega
      obtain ⟨A', c', r, hr, hcut⟩ := piece_from A m c k hlt hmc
      have hei : ((64 * k : Nat) : Int) = i := HI.out.1.symm
      have hcut' : ∀ W : World, (Instr.slice 22 (.slice A m c) (some (.int .i64 i)) none none).run Try.prog W = .ok (.slice A' r c') W := fun W => by rw [← hei]; exact hcut W
      obtain ⟨en, hen⟩ : ∃ en : Int, en = if (r : Int) < 64 then (r : Int) else 64 := ⟨_, rfl⟩
      have hen2 : en = ((min 64 (m - 64 * k) : Nat) : Int) := by rw [hen]; split <;> omega
      have w1 : wrap64 (i + en) = i + en := by have := HI.out; unfold wrap64; omega
      have w2 : wrap64 (i + 64) = i + 64 := by have := HI.out; unfold wrap64; omega
      have hcut2 : ∀ W : World, (Instr.slice 22 (.slice A m c) (some (.int .i64 i)) (some (.int .i64 (i + en))) (some (.int .i64 (i + en)))).run Try.prog W = .ok (pieceV A m k) W := fun W => by
        have := piece_run A m c k hlt hmc W (i + en) (by rw [hen2, ← hei]; omega)
        rw [hei] at this
        exact this
      have HR := Aside0.mk (And.intro hr (And.intro hen2 hlt))
      have he : (if (r : Int) < 64 then (r : Int) else 64) = en := hen.symm
      clear hcut hr hei hen2 hlt hen
      have d1 : decide (i < (m : Int)) = true := decide_eq_true hi0
      gi_wp2
      refine rq_lit (by kernel_rfl) (by kernel_rfl) (by kernel_rfl) ?_
      repeat (gi_big_quiet_step (fail))
      refine wpQuietIn_nil ?_
      rintro _ ⟨nq, rfl⟩
      obtain ⟨W2, hW2⟩ : ∃ W2, W2 = wr.drewN nq := ⟨_, rfl⟩
      have hJ2 := hD _ _ _ ⟨nq, hW2⟩ hJs
      have hc1 : W2.cell? ⟨Bs, 0, none⟩ = some (.slice A m c) := by rw [hW2]; exact hb1
      have hc2 : W2.cell? ⟨Bn, 0, none⟩ = some (.int .i64 64) := by rw [hW2]; exact hb2
      rw [← hW2]
      clear hW2 hb1 hb2
      obtain ⟨fn, tmps, assign, body, hy, hR⟩ := hY _ k W2 hJ2 (by rw [upto_length]; have := HR.out; omega) HR.out.2.2
      gi_wp2
      refine hR.mono ?_
      rintro e W3 (⟨rfl, hJ3, hk3⟩ | ⟨rfl, hJx3⟩)
      · have hb1 := hk3.1 _ hc1
        have hb2 := hk3.2 _ hc2
        gi_wp2
        go_roundw
        case rel => exact ⟨k + 1, _, rfl, ⟨by have := HI.out; omega, by have := HR.out; omega⟩, by rw [upto_succ]; exact hJ3, hb1, hb2⟩
        case measure => have := HI.out; have := HR.out; simp [intOf]; omega
      · gi_wp2
        refine bodyPost_ret (results_none rfl _ _ _) rfl ?_
        exact ⟨⟨_, rfl⟩, .inr ⟨_, trivial, hJx3⟩⟩
    · have hk : k = (m + 63) / 64 := by have := HI.out; omega
      have d1 : decide (i < (m : Int)) = false := decide_eq_false hi0
      gi_wp2
      go_end0
      subst hk
      first | exact ⟨⟨_, rfl⟩, .inl ⟨_, rfl, hJs⟩⟩ | exact ⟨⟨_, rfl⟩, .inl hJs⟩
theorem grown_drawn {W W' : World} (h : Drawn0 W W') : W.grownBy W' none := by
  obtain ⟨m, rfl⟩ := h
  exact ⟨rfl, rfl, rfl, Nat.le_refl _, fun _ _ _ => rfl⟩
theorem chunk_stops (F : Fence) (n : Nat) (h45 : F.fn 45) (hro : F.round = none) (hn : 1 ≤ n) (Bs Bn : Nat) (A : Option Addr) (m c : Nat) (hmc : m ≤ c) (hlen : m ≤ 1000000) (w : World) (hBs : Bs < w.heap.size) (hBn : Bn < w.heap.size)
    (h1 : w.cell? ⟨Bs, 0, none⟩ = some (.slice A m c)) (h2 : w.cell? ⟨Bn, 0, none⟩ = some (.int .i64 64)) :
    SeqStopsK F n Try.prog 45 #[.pointer (some ⟨Bs, 0, none⟩), .pointer (some ⟨Bn, 0, none⟩)] (fun k : { k : Nat // 64 * k < m } => #[pieceV A m k.1]) (KpC Bs Bn) (fun ys => ys.map (·.1) = upto id ((m + 63) / 64)) (fun _ => True) ((m + 63) / 64) w := fun l J Jx W hW hA _ hY h0 => by
  refine (chunk1_in F n h45 hro hn l Bs Bn A m c hmc hlen (fun pre W => ∃ pre' : List { k : Nat // 64 * k < m }, pre'.map (·.1) = pre ∧ J pre' W) (fun pre W => ∃ pre' : List { k : Nat // 64 * k < m }, pre'.map (·.1) = pre ∧ Jx pre' W) ?_ ?_ W
    ((hW.cell (p := ⟨Bs, 0, none⟩) hBs).trans h1) ((hW.cell (p := ⟨Bn, 0, none⟩) hBn).trans h2) ⟨[], rfl, h0⟩).mono ?_
  · rintro pre k W1 ⟨pre', rfl, hJ⟩ hlt hk
    refine (hY pre' ⟨k, hk⟩ W1 hJ (by simpa using hlt)).mono ?_
    rintro e W' (⟨he, hj, hk'⟩ | ⟨he, hj⟩)
    · exact .inl ⟨he, ⟨pre' ++ [⟨k, hk⟩], by simp, hj⟩, hk'⟩
    · exact .inr ⟨he, ⟨pre' ++ [⟨k, hk⟩], by simp, hj⟩⟩
  · rintro pre W1 W2 hd ⟨pre', rfl, hJ⟩
    exact ⟨pre', rfl, hA _ _ _ none hJ (grown_drawn hd) (fun r hr => by cases hr)⟩
  · rintro e W' ⟨he, ⟨ys, rfl, ys', h1, h2⟩ | ⟨pre, _, pre', h1, h2⟩⟩
    · exact ⟨he, .inl ⟨ys', h1, h2⟩⟩
    · exact ⟨he, .inr ⟨pre', trivial, h2⟩⟩
end Go.Proofs.Ytjbgbnngfbhmjaa.Pk
