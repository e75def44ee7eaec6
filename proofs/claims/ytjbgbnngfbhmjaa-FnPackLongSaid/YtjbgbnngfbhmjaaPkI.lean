import Derived.Test.YtjbgbnngfbhmjaaPkH
namespace Go.Proofs.Ytjbgbnngfbhmjaa.Pk
open Go.RowKit Go.Shelf Go.Proofs.YtjbgbnngfbhmjaaW.PrintWords Go.Proofs.YtjbgbnngfbhmjaaW.PrintLast Go.Proofs.YtjbgbnngfbhmjaaW.PrintMore
open Go.WideElems Go.ChangeMaps
set_option linter.unusedVariables false
set_option linter.unusedSimpArgs false
/-- A run that is known carries the walk over an append. -/
theorem wpList_append_known {P : Program} {ops : Array Oper} {rest : List Oper} {o : Oper} {a : Act} {Q : Exit → Act → World → Prop} {w w1 : World} {v xv v1 : Value}
    (hg : o.guard = none) (s x : Operand) (t : TypeId) (hop : o.op = Op.call { callee := Callee.builtin Builtin.append, args := #[s, x], argTypes := #[t, t] }) (hs : a.eval s = v) (hx : a.eval x = xv)
    (hrun : (Builtin.append_ #[t, t] o.type #[v, xv]).run P w = .ok v1 w1) (hK : wpList P ops Q rest (a.put o.dst v1) w1) : wpList P ops Q (o :: rest) a w := by
  refine wpList_plain hg fun K hK' => ?_
  unfold Oper.wp execOp
  simp only [hop, resolve, invoke, builtin, Sem.run_bind, Sem.run_pure, Result.andThen_ok, List.map_toArray, List.map_cons, List.map_nil, hs, hx, hrun]
  exact hK' _ _ hK
/-- The same in a region whose order is drawn. -/
theorem append_known_step {P : Program} {ops : Array Oper} {o : Oper} {a : Act} {Kc : Act → World → Prop} {Q : Exit → Act → World → Prop} {w w1 : World} {v xv v1 : Value} (hw : Region.wanted o (yielded ops a.tmps) = true) (s x : Operand) (t : TypeId)
    (hop : o.op = Op.call { callee := Callee.builtin Builtin.append, args := #[s, x], argTypes := #[t, t] }) (hs : a.eval s = v) (hx : a.eval x = xv) (hrun : (Builtin.append_ #[t, t] o.type #[v, xv]).run P w = .ok v1 w1) (h : Kc (a.put o.dst v1) w1) :
    if Region.wanted o (yielded ops a.tmps) = true then Oper.wp P o a w Kc Q else Kc (a.put o.dst undef) w := by
  rw [if_pos hw]
  unfold Oper.wp execOp
  simp only [hop, resolve, invoke, builtin, Sem.run_bind, Sem.run_pure, Result.andThen_ok, List.map_toArray, List.map_cons, List.map_nil, hs, hx, hrun]
  exact h
/-- The three bytes at a place. -/
def keyAt (l : List Int) (a : Int) : Int × Int × Int := (rd l a, rd l (a + 1), rd l (a + 2))
def seeF (l : List Int) (a : Int) (f : Int × Int × Int → List Int) : Int × Int × Int → List Int := if a + 3 ≤ (l.length : Int) then fun q => if q = keyAt l a then f q ++ [a] else f q else f
theorem arr_run (ad : Addr) (c : Nat) (W : World) : (Instr.arrayAt 46 (.slice (some ad) 3 c)).run Try.prog W = .ok (.pointer (some ad)) W := by
  simp [Instr.arrayAt, run_underlying Try.underlying46]
theorem SeenC.mv {S : Nat → Prop} {W W' : World} {mb base : Nat} {f : Int × Int × Int → List Int} {es : Array MapEntry} {clock : Nat} (h : SeenC W mb base f es clock) (m : Mv S W W') (hm : ¬ S mb) (hs : ∀ k, Bl es k → ¬ S k) : SeenC W' mb base f es clock :=
  ⟨(m.block mb (Array.getElem?_eq_some_iff.1 h.obj).1 hm).trans h.obj, fun e he => by
    obtain ⟨a, b, c, q1, q2, q3, q4, q5⟩ := h.key e he
    exact ⟨a, b, c, q1, q2, q3, q4, m.row q5 (fun k hk => hs k ⟨e, he, hk⟩)⟩, h.no, h.born, h.nodup, h.one, h.apart⟩
theorem SeenC.lt {W : World} {mb base : Nat} {f : Int × Int × Int → List Int} {es : Array MapEntry} {clock : Nat} (h : SeenC W mb base f es clock) : ∀ k, Bl es k → k < W.heap.size ∧ k ≠ mb := fun k ⟨e, he, hk⟩ => by
  obtain ⟨_, _, _, _, _, _, _, q5⟩ := h.key e he
  exact ⟨Kd.R_lt q5 k hk, own_ne_map q5 h.obj k hk⟩
theorem C_cell {W : World} {B : Nat} {x : Int} (h : W.cell? ⟨B, 0, none⟩ = some (.int .i64 x)) : Kd.C (Kd.int .i64) W (some ⟨B, 0, none⟩) 1 [x] :=
  ⟨rfl, by decide, fun _ => ⟨_, rfl, fun j p hp => by
    match j, hp with
    | 0, hp =>
      cases hp
      exact ⟨[.int .i64 x], rfl, rfl, fun i u hu => by
        match i, hu with
        | 0, hu =>
          cases hu
          exact h
        | i + 1, hu => simp at hu⟩
    | j + 1, hp => simp at hp⟩⟩
theorem set3 {w : World} {g : Nat} {a0 a1 a2 : Value} {t : TypeId} (h : w.heap[g]? = some (.cells #[a0, a1, a2] t (0, 0))) (b0 b1 b2 : Value) : (((w.setCell ⟨g, 0, none⟩ b0).setCell ⟨g, 1, none⟩ b1).setCell ⟨g, 2, none⟩ b2).heap[g]? = some (.cells #[b0, b1, b2] t (0, 0)) := by
  have h0 : (w.setCell ⟨g, 0, none⟩ b0).heap[g]? = some (.cells #[b0, a1, a2] t (0, 0)) := blk_put (cs := #[a0, a1, a2]) (cs' := #[b0, a1, a2]) h 0 b0 rfl
  generalize w.setCell ⟨g, 0, none⟩ b0 = W0 at h0 ⊢
  have h1 : (W0.setCell ⟨g, 1, none⟩ b1).heap[g]? = some (.cells #[b0, b1, a2] t (0, 0)) := blk_put (cs := #[b0, a1, a2]) (cs' := #[b0, b1, a2]) h0 1 b1 rfl
  generalize W0.setCell ⟨g, 1, none⟩ b1 = W1 at h1 ⊢
  exact blk_put (cs := #[b0, b1, a2]) (cs' := #[b0, b1, b2]) h1 2 b2 rfl
theorem mv1 (w : World) (p : Addr) (b0 : Value) : Mv (fun i => i = p.block) w (w.setCell p b0) := ⟨rfl, rfl, rfl, (KeepsWalks.setCell w _ b0).size, fun k _ hk => Below.heap_setCell _ _ _ k hk⟩
theorem mv3 (w : World) (g : Nat) (b0 b1 b2 : Value) : Mv (fun i => i = g) w (((w.setCell ⟨g, 0, none⟩ b0).setCell ⟨g, 1, none⟩ b1).setCell ⟨g, 2, none⟩ b2) :=
  ((mv1 w ⟨g, 0, none⟩ b0).trans (mv1 _ ⟨g, 1, none⟩ b1) (U := fun i => i = g) (fun _ _ e => e) (fun _ _ e => e)).trans (mv1 _ ⟨g, 2, none⟩ b2) (fun _ _ e => e) (fun _ _ e => e)
/-- seen[key] = append(seen[key], a), from a world on. -/
theorem see_steps {W : World} {mb base : Nat} {f : Int × Int × Int → List Int} {es : Array MapEntry} {clock : Nat} (S : SeenC W mb base f es clock) {x y z : Int} (hx : isB x) (hy : isB y) (hz : isB z) (a : Int) (hf : ∀ q, (f q).length ≤ 1000000) (hb : base ≤ W.heap.size) :
    ∃ (v0 : Value) (st : Nat) (W6 : World) (v1 : Value) (W7 W8 : World) (es' : Array MapEntry) (clock' : Nat),
      (Instr.mapEntry 44 (.map (some mb)) (.agg #[.int .i64 x, .int .i64 y, .int .i64 z])).run Try.prog (W.alloc (.cells #[.int .i64 a] 3)) = .ok (.tuple #[v0, .int .i64 (st : Int)]) W6 ∧
      (Builtin.append_ #[22, 22] 22 #[v0, .slice (some ⟨W.heap.size, 0, none⟩) 1 1]).run Try.prog W6 = .ok v1 W7 ∧
      (Instr.entryStore 44 (.map (some mb)) (.int .i64 (st : Int)) v1).run Try.prog W7 = .ok () W8 ∧
      SeenC W8 mb base (fun q => if q = (x, y, z) then f q ++ [a] else f q) es' clock' ∧ (∀ k, Bl es' k → Bl es k ∨ W.heap.size ≤ k) ∧ Mv (fun i => i = mb ∨ Bl es i) W W8 := by
  have mA : Mv (fun _ => False) W (W.alloc (.cells #[.int .i64 a] 3)) := Mv.of (World.grownBy_alloc W _ none) (fun _ _ e => by cases e)
  have S5 := S.mv mA (fun h => h) (fun _ _ h => h)
  obtain ⟨v0, st, es1, clock1, j, run1, S6, hj, bl6⟩ := S5.entry hx hy hz
  have mB : Mv (fun i => i = mb) (W.alloc (.cells #[.int .i64 a] 3)) (setBlock (W.alloc (.cells #[.int .i64 a] 3)) mb (.map es1 clock1)) := Mv.of (setBlock_grown _ mb _) (fun i _ e => by injection e with e; exact e.symm)
  obtain ⟨x', y', z', _, _, _, hk, r0⟩ := S6.key _ (List.mem_of_getElem? hj)
  have hk' : key3 x y z = key3 x' y' z' := hk
  rw [key3_inj] at hk'
  obtain ⟨rfl, rfl, rfl⟩ := hk'
  have r0' : Kd.R (Kd.int .i64) 3 (setBlock (W.alloc (.cells #[.int .i64 a] 3)) mb (.map es1 clock1)) base (fun _ => True) v0 (f (x, y, z)) := r0
  have hmlt : mb < W.heap.size := (Array.getElem?_eq_some_iff.1 S.obj).1
  have hsa : (W.alloc (.cells #[.int .i64 a] 3)).heap.size = W.heap.size + 1 := World.size_alloc _ _
  have hs6 := mB.size
  have hcell : (setBlock (W.alloc (.cells #[.int .i64 a] 3)) mb (.map es1 clock1)).cell? ⟨W.heap.size, 0, none⟩ = some (.int .i64 a) :=
    mB.cell (Boxed.new W 3 (.int .i64 a)).cell (by omega) (by omega)
  obtain ⟨v1, W7, run2, r1, g7, at7⟩ := appR_run (c := 1) base r0' (C_cell hcell) (by omega) (by have := hf (x, y, z); omega)
  have m7 : Mv (fun i => some i = v0.ownBlock) (setBlock (W.alloc (.cells #[.int .i64 a] 3)) mb (.map es1 clock1)) W7 := Mv.of g7 (fun _ _ e => e.symm)
  obtain ⟨es', run3, S8, bl8, hmb⟩ := S6.store hj a m7 r1 at7
  have hob : W7.heap[mb]? = some (.map es1 clock1) := (m7.block mb (Array.getElem?_eq_some_iff.1 S6.obj).1 hmb).trans S6.obj
  have m8 : Mv (fun i => i = mb) W7 (setBlock W7 mb (.map es' clock1)) := Mv.of (setBlock_grown _ mb _) (fun i _ e => by injection e with e; exact e.symm)
  refine ⟨v0, st, _, v1, W7, _, es', clock1, run1, run2, run3, S8, fun k hk => ?_, ?_⟩
  · rcases bl8 k hk with q | q
    · exact .inl (bl6 k q)
    · exact .inr (by omega)
  · have m1 : Mv (fun i => i = mb ∨ Bl es i) W (setBlock (W.alloc (.cells #[.int .i64 a] 3)) mb (.map es1 clock1)) := mA.trans mB (fun _ _ e => e.elim) (fun _ _ e => .inl e)
    have m2 : Mv (fun i => i = mb ∨ Bl es i) W W7 := m1.trans m7 (fun _ _ e => e) (fun i _ e => .inr (bl6 i ⟨_, List.mem_of_getElem? hj, e.symm⟩))
    exact m2.trans m8 (fun _ _ e => e) (fun _ _ e => .inl e)
/-- What see leaves. -/
def SeeR (a : Int) (mb base : Nat) (l : List Int) (f : Int × Int × Int → List Int) (es : Array MapEntry) (w w' : World) : Prop :=
  ∃ es' clock', SeenC w' mb base (seeF l a f) es' clock' ∧ (∀ k, Bl es' k → Bl es k ∨ w.heap.size ≤ k) ∧ Mv (fun i => i = mb ∨ Bl es i) w w'
set_option maxRecDepth 100000 in
set_option maxHeartbeats 4000000 in
theorem see_calls (a : Int) (IB SB mb base : Nat) (A0 : Option Addr) (c0 : Nat) (l : List Int) (f : Int × Int × Int → List Int) (es : Array MapEntry) (clock : Nat) (w : World)
    (bI : Boxed w IB 22 (.slice A0 l.length c0)) (bS : Boxed w SB 44 (.map (some mb))) (hC : Kd.C (Kd.int .i64) w A0 l.length l) (hc : l.length ≤ c0) (S : SeenC w mb base f es clock) (h0 : 0 ≤ a) (hl : l.length ≤ 1000000) (ha : a ≤ 1000000)
    (hB : ∀ i : Int, 0 ≤ i → i < l.length → isB (rd l i)) (hf : ∀ q, (f q).length ≤ 1000000) (hb : base ≤ w.heap.size) :
    Calls Try.prog 42 #[.int .i64 a, .pointer (some ⟨IB, 0, none⟩), .pointer (some ⟨SB, 0, none⟩)] w fun e w' => e = .returned (.tuple #[]) ∧ SeeR a mb base l f es w w' := by
  have hzI := bI.cell
  have hzS := bS.cell
  have w3 : wrap64 (a + 3) = a + 3 := by unfold wrap64; omega
  by_cases c1 : a + 3 ≤ (l.length : Int)
  · have d1 : decide (a + 3 ≤ (l.length : Int)) = true := decide_eq_true c1
    obtain ⟨ad, e1, hrd⟩ : ∃ ad, A0 = some ad ∧ ∀ j : Nat, j < l.length → w.cell? (ad.add j) = some (.int .i64 (rd l j)) := by
      obtain ⟨ad, e1, _⟩ := Kd.at_int hC a h0 (by omega)
      refine ⟨ad, e1, fun j hj => ?_⟩
      obtain ⟨ad2, e2, h2⟩ := Kd.at_int hC (j : Int) (by omega) (by omega)
      rw [e1] at e2
      cases e2
      simpa using h2
    subst e1
    obtain ⟨i0, hi0, _, hsz, _⟩ := info_parts info3
    have hcut0 := cut_mid 22 3 .i64 .i64 Try.underlying22 hi0 1 hsz (some ad) l.length c0 a (a + 3) h0 (by omega) (by omega) hc
    have e3 : (a + 3).toNat - a.toNat = 3 := by omega
    rw [if_neg (by omega), e3, Nat.mul_one] at hcut0
    obtain ⟨ad', had'⟩ : ∃ ad', ad' = ad.add a.toNat := ⟨_, rfl⟩
    have hcut : ∀ W : World, (Instr.slice 22 (.slice (some ad) l.length c0) (some (.int .i64 a)) (some (.int .i64 (a + 3))) none).run Try.prog W = .ok (.slice (some ad') 3 (c0 - a.toNat)) W := fun W => by
      rw [hcut0 W, had']
      rfl
    have harr : ∀ W : World, (Instr.arrayAt 46 (.slice (some ad') 3 (c0 - a.toNat))).run Try.prog W = .ok (.pointer (some ad')) W := arr_run ad' _
    obtain ⟨x, hx⟩ : ∃ x, x = rd l a := ⟨_, rfl⟩
    obtain ⟨y, hy⟩ : ∃ y, y = rd l (a + 1) := ⟨_, rfl⟩
    obtain ⟨z, hz⟩ : ∃ z, z = rd l (a + 2) := ⟨_, rfl⟩
    have hx1 : w.cell? (ad'.add 0) = some (.int .i64 x) := by
      rw [had', hx, Addr.add_add]
      have := hrd a.toNat (by omega)
      rw [Int.toNat_of_nonneg h0] at this
      exact this
    have hy1 : w.cell? (ad'.add 1) = some (.int .i64 y) := by
      rw [had', hy, Addr.add_add]
      have := hrd (a.toNat + 1) (by omega)
      rw [show ((a.toNat + 1 : Nat) : Int) = a + 1 by omega] at this
      exact this
    have hz1 : w.cell? (ad'.add 2) = some (.int .i64 z) := by
      rw [had', hz, Addr.add_add]
      have := hrd (a.toNat + 2) (by omega)
      rw [show ((a.toNat + 2 : Nat) : Int) = a + 2 by omega] at this
      exact this
    have hx2 : w.cell? ad' = some (.int .i64 x) := by simpa [Addr.add] using hx1
    have hy3 : w.cell? ⟨ad'.block, ad'.off + 1, none⟩ = some (.int .i64 y) := by rw [had'] at hy1 ⊢; simpa [Addr.add] using hy1
    have hz3 : w.cell? ⟨ad'.block, ad'.off + 2, none⟩ = some (.int .i64 z) := by rw [had'] at hz1 ⊢; simpa [Addr.add] using hz1
    have hu46 := Try.underlying46
    have HI := Aside0.mk (And.intro hcut0 (And.intro hrd had'))
    have HX := Aside0.mk (And.intro hx (And.intro hy hz))
    clear hcut0 hrd had' e3 hx hy hz
    go_enter Try.func42, Try.ntmps42
    go_upto_region 2 with fail
    have m4 : Mv (fun _ => False) w (w.alloc (.cells #[.int .i64 x, .int .i64 y, .int .i64 z] 46)) := Mv.of (World.grownBy_alloc w _ none) (fun _ _ e => by cases e)
    have bk : (w.alloc (.cells #[.int .i64 x, .int .i64 y, .int .i64 z] 46)).heap[w.heap.size]? = some (.cells #[.int .i64 x, .int .i64 y, .int .i64 z] 46 (0, 0)) := World.alloc_heap_new w _
    clear hzI hzS
    generalize w.alloc (.cells #[.int .i64 x, .int .i64 y, .int .i64 z] 46) = W4 at *
    have S4 := S.mv m4 (fun h => h) (fun _ _ h => h)
    have bS4 := m4.boxed bS (fun h => h)
    have hzS := bS4.cell
    have hq_0 := (blk_cell bk 0).trans (show _ = some (Value.int .i64 x) from rfl)
    have hq_1 := (blk_cell bk 1).trans (show _ = some (Value.int .i64 y) from rfl)
    have hq_2 := (blk_cell bk 2).trans (show _ = some (Value.int .i64 z) from rfl)
    obtain ⟨v0, st, W6, v1, W7, W8, es', clock', run1, run2, run3, S8, bl8, m8⟩ := see_steps S4 (x := x) (y := y) (z := z) (by rw [HX.out.1]; exact hB a h0 (by omega)) (by rw [HX.out.2.1]; exact hB (a + 1) (by omega) (by omega)) (by rw [HX.out.2.2]; exact hB (a + 2) (by omega) (by omega)) a hf (Nat.le_trans hb m4.size)
    have HF := Aside0.mk (And.intro S8 (And.intro bl8 m8))
    clear S8 bl8 m8 S4 S
    go_wp2_with (at_builtin; refine wpList_append_known rfl _ _ 22 rfl rfl rfl run2 ?_)
    go_end0
    refine ⟨rfl, es', clock', ?_, fun k hk => ?_, m4.trans HF.out.2.2 (fun _ _ e => e.elim) (fun _ _ e => e)⟩
    · have e : seeF l a f = fun q => if q = (x, y, z) then f q ++ [a] else f q := by
        unfold seeF keyAt
        rw [if_pos c1, HX.out.1, HX.out.2.1, HX.out.2.2]
      rw [e]
      exact HF.out.1
    · rcases HF.out.2.1 k hk with q | q
      · exact .inl q
      · exact .inr (Nat.le_trans m4.size q)
  · have d1 : decide (a + 3 ≤ (l.length : Int)) = false := decide_eq_false c1
    go_enter Try.func42, Try.ntmps42
    go_wp2
    go_end0
    refine ⟨rfl, es, clock, ?_, fun k hk => .inl hk, Mv.refl _ _⟩
    unfold seeF
    rw [if_neg (by omega)]
    exact S
end Go.Proofs.Ytjbgbnngfbhmjaa.Pk
