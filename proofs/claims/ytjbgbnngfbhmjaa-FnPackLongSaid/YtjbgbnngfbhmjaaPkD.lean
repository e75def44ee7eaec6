import Derived.Test.YtjbgbnngfbhmjaaPkC
import Derived.Maps.AppendAt
namespace Go.Proofs.Ytjbgbnngfbhmjaa.Pk
open Go.RowKit Go.Shelf Go.Proofs.YtjbgbnngfbhmjaaW.PrintWords Go.Proofs.YtjbgbnngfbhmjaaW.PrintLast Go.Proofs.YtjbgbnngfbhmjaaW.PrintMore
set_option linter.unusedVariables false
set_option linter.unusedSimpArgs false
attribute [local go_sem] Oper.semAt_some max2_int min2_int max_two min_two

/-- A world in which nothing has turned but the blocks in S. -/
structure Mv (S : Nat → Prop) (w w' : World) : Prop where
  os : w'.os = w.os
  tape : w'.tape = w.tape
  output : w'.output = w.output
  size : w.heap.size ≤ w'.heap.size
  block : ∀ k, k < w.heap.size → ¬ S k → w'.heap[k]? = w.heap[k]?
theorem Mv.refl (S : Nat → Prop) (w : World) : Mv S w w := ⟨rfl, rfl, rfl, Nat.le_refl _, fun _ _ _ => rfl⟩
theorem Mv.of {S : Nat → Prop} {w w' : World} {row : Option Nat} (hg : w.grownBy w' row) (h : ∀ k, k < w.heap.size → row = some k → S k) : Mv S w w' := ⟨hg.os, hg.tape, hg.output, hg.size, fun k hk hs => hg.block k hk (fun e => hs (h k hk e.symm))⟩
theorem Mv.trans {S T U : Nat → Prop} {a b c : World} (h : Mv S a b) (k : Mv T b c) (hS : ∀ i, i < a.heap.size → S i → U i) (hT : ∀ i, i < a.heap.size → T i → U i) : Mv U a c :=
  ⟨k.os.trans h.os, k.tape.trans h.tape, k.output.trans h.output, Nat.le_trans h.size k.size, fun i hi hu => (k.block i (Nat.lt_of_lt_of_le hi h.size) (fun t => hu (hT i hi t))).trans (h.block i hi (fun s => hu (hS i hi s)))⟩
theorem Mv.below {S : Nat → Prop} {w w' : World} {n : Nat} (h : Mv S w w') (hn : n ≤ w.heap.size) (hS : ∀ k, k < n → ¬ S k) : Below n w w' := ⟨h.os, h.tape, h.output, h.size, fun k hk => h.block k (Nat.lt_of_lt_of_le hk hn) (hS k hk)⟩
theorem Mv.boxed {S : Nat → Prop} {w w' : World} {B : Nat} {t : TypeId} {v : Value} (h : Mv S w w') (b : Boxed w B t v) (hB : ¬ S B) : Boxed w' B t v :=
  (h.block B (Array.getElem?_eq_some_iff.1 b).1 hB).trans b
theorem R_flat {w : World} {base : Nat} {ok ok' : Nat → Prop} {v : Value} {xs : List Int} (h : Kd.R (Kd.int .i64) 3 w base ok v xs) (hok : ∀ k, v.ownBlock = some k → ok k → ok' k) : Kd.R (Kd.int .i64) 3 w base ok' v xs :=
  ⟨fun k hk => hok k hk (h.1 k hk), h.2.imp_ (fun _ _ hp => hp)⟩
theorem Mv.row {S : Nat → Prop} {w w' : World} {base : Nat} {v : Value} {xs : List Int} (h : Mv S w w') (r : Kd.R (Kd.int .i64) 3 w base (fun _ => True) v xs) (hv : ∀ k, v.ownBlock = some k → ¬ S k) : Kd.R (Kd.int .i64) 3 w' base (fun _ => True) v xs :=
  Kd.R_mono (Kd.R_step (R_flat (ok' := fun k => v.ownBlock = some k) r (fun k e _ => e)) (fun k hk hlt => h.block k hlt (hv k hk))) (fun _ _ => trivial)
theorem Mv.cell {S : Nat → Prop} {w w' : World} {B : Nat} {v : Value} (h : Mv S w w') (b : w.cell? ⟨B, 0, none⟩ = some v) (hlt : B < w.heap.size) (hB : ¬ S B) : w'.cell? ⟨B, 0, none⟩ = some v := by
  rw [← b]
  exact World.cell?_of_block (a := ⟨B, 0, none⟩) (h.block B hlt hB)
theorem int_reps {xs : List Int} {w : World} {base : Nat} {o : Nat → Prop} {cs : List Value} (h : Reps (Kd.M (Kd.int .i64) w base o) 1 xs cs) {w' : World} {o' : Nat → Prop} : Reps (Kd.M (Kd.int .i64) w' base o') 1 xs cs := h.imp_ (fun _ _ hp => hp)
/-- append(v, ys...), v a row of numbers of one's own: the row, and where it lies. -/
theorem appR_run {W : World} (base : Nat) {v : Value} {A : Option Addr} {m c : Nat} {xs ys : List Int} (HO : Kd.R (Kd.int .i64) 3 W base (fun _ => True) v xs) (HC : Kd.C (Kd.int .i64) W A m ys) (hbase : base ≤ W.heap.size) (hl : (xs.length + m) * 8 ≤ 140737488355328) :
    ∃ v1 w1, (Builtin.append_ #[22, 22] 22 #[v, .slice A m c]).run Try.prog W = .ok v1 w1 ∧ Kd.R (Kd.int .i64) 3 w1 base (fun _ => True) v1 (xs ++ ys) ∧ W.grownBy w1 v.ownBlock ∧ (v1.ownBlock = v.ownBlock ∨ ∃ b, v1.ownBlock = some b ∧ W.heap.size ≤ b) := by
  obtain ⟨i0, hi, hz0, hz1, hz2⟩ := info_parts info3
  have hm : ys.length = m := HC.1
  obtain ⟨hok, inner, hown, hr⟩ := HO
  rcases A with _ | ad
  · have h0 : m = 0 := by
      rcases Nat.eq_zero_or_pos m with h0 | h0
      · exact h0
      · obtain ⟨ad, h, _⟩ := HC.2.2 h0
        cases h
    subst h0
    obtain rfl : ys = [] := List.eq_nil_of_length_eq_zero hm
    refine ⟨v, W, ?_, by rw [List.append_nil]; exact ⟨hok, inner, hown, hr⟩, World.grownBy.refl W _, .inl rfl⟩
    rcases hown.2 with ⟨rfl, hn⟩ | ⟨g, cap, cur, rfl, _, _, hnc, _⟩
    · simp [Builtin.append_, run_underlying Try.underlying22, sizeOf, typeInfo, hi, Builtin.lenOf, Builtin.firstCells]
    · simp [Builtin.append_, run_underlying Try.underlying22, sizeOf, typeInfo, hi, Builtin.lenOf, Builtin.firstCells, hnc, storeCells]
  · obtain ⟨news, hnr, hnc⟩ := ReadsRow.inner_ HC
    have hone : ∀ u ∈ news, u.oneCell' = true := by
      intro u hu
      obtain ⟨q, hq, rfl⟩ := List.mem_iff_getElem.1 hu
      have hl1 : news.length = ys.length * 1 := hnr.1
      have hql : q < ys.length := by omega
      have hc := hnr.2 q _ (List.getElem?_eq_getElem hql)
      refine (Kd.int .i64).K_one hc _ ?_
      rw [List.mem_iff_getElem?]
      refine ⟨0, ?_⟩
      show ((news.drop (q * 1)).take 1)[0]? = _
      rw [List.getElem?_take, if_pos Nat.one_pos, List.getElem?_drop, Nat.mul_one, Nat.add_zero, List.getElem?_eq_getElem hq]
    obtain ⟨v1, w1, hrun, h2, hg, _, hat⟩ := run_append_own_at (P := Try.prog) W base 22 22 3 i0 (.int .i64 0) 1 8 Try.underlying22 hi hz0 hz1 hz2 rfl Nat.one_pos v xs.length inner hown ad m c news (by have := hnr.1; rw [this, hm]; rfl) hnc hone (by simp only [maxLen]; omega) hl hbase
    refine ⟨v1, w1, hrun, ⟨fun _ _ => trivial, inner ++ news, by rw [List.length_append, hm]; exact h2, Kd.reps_append (int_reps hr) (hnr.imp_ (fun _ _ hp => hp))⟩, hg, ?_⟩
    rcases hat with hat | hat
    · exact .inl hat
    · exact .inr ⟨_, hat, Nat.le_refl _⟩
/-- A run that is known carries the walk over an append, inside a fence. -/
theorem wpListIn_append_known {F : Fence} {n : Nat} {P : Program} {ops : Array Oper} {rest : List Oper} {o : Oper} {a : Act} {Q : Exit → Act → World → Prop} {w w1 : World} {v xv v1 : Value}
    (hg : o.guard = none) (s x : Operand) (t : TypeId) (hop : o.op = Op.call { callee := Callee.builtin Builtin.append, args := #[s, x], argTypes := #[t, t] }) (hs : a.eval s = v) (hx : a.eval x = xv)
    (hrun : (Builtin.append_ #[t, t] o.type #[v, xv]).run P w = .ok v1 w1) (hK : wpListIn F n P ops Q rest (a.put o.dst v1) w1) : wpListIn F n P ops Q (o :: rest) a w := by
  refine wpListIn_plain hg fun K hK' => ?_
  unfold Oper.wpIn
  refine ⟨?_, ?_⟩
  · simp [Oper.about, hop, resolve, Target.leads, Sem.run_pure]
  · rw [Oper.semAt_plain F _ _ (by rw [hop]; intro c hc'; cases hc')]
    simp [execOp, hop, resolve, invoke, builtin, hs, hx, hrun, Result.andThen]
    exact hK' _ _ hK
/-- What a piece of a row is written as: how many less one, and they. -/
def pieceO (xs : List Int) (k : Nat) : List Int := (((min 64 (xs.length - 64 * k) : Nat) : Int) - 1) :: ((xs.take (64 * k + min 64 (xs.length - 64 * k))).drop (64 * k))
def piecesO (xs : List Int) (ks : List Nat) : List Int := (ks.map (pieceO xs)).flatten
theorem piecesO_snoc (xs : List Int) (ks : List Nat) (k : Nat) : piecesO xs (ks ++ [k]) = piecesO xs ks ++ pieceO xs k := by simp [piecesO]
theorem pieceO_len {xs : List Int} {k : Nat} : (pieceO xs k).length ≤ 65 := by
  simp only [pieceO, List.length_cons, List.length_drop, List.length_take]
  omega
theorem piecesO_len (xs : List Int) : ∀ ks : List Nat, (piecesO xs ks).length ≤ 65 * ks.length
  | [] => by simp [piecesO]
  | k :: ks => by
    have h := piecesO_len xs ks
    have h2 := @pieceO_len xs k
    simp only [piecesO, List.map_cons, List.flatten_cons, List.length_append, List.length_cons] at h ⊢
    omega
end Go.Proofs.Ytjbgbnngfbhmjaa.Pk
