import Derived.Test.YtjbgbnngfbhmjaaPkD
namespace Go.Proofs.Ytjbgbnngfbhmjaa.Pk
open Go.RowKit Go.Shelf Go.Proofs.YtjbgbnngfbhmjaaW.PrintWords Go.Proofs.YtjbgbnngfbhmjaaW.PrintLast Go.Proofs.YtjbgbnngfbhmjaaW.PrintMore
set_option linter.unusedVariables false
set_option linter.unusedSimpArgs false
attribute [local go_sem] Oper.semAt_some max2_int min2_int max_two min_two

theorem C_one (W : World) (x : Int) : Kd.C (Kd.int .i64) (W.alloc (.cells #[.int .i64 x] 3)) (some ⟨W.heap.size, 0, none⟩) 1 [x] :=
  ⟨rfl, by decide, fun _ => ⟨_, rfl, fun j p hp => by
    match j, hp with
    | 0, hp =>
      cases hp
      exact ⟨[.int .i64 x], rfl, rfl, fun i u hu => by rw [Nat.zero_mul, Nat.zero_add]; exact cell_one_new W _ 3 i u hu⟩
    | j + 1, hp => simp at hp⟩⟩
/-- What a flush has brought about behind so many pieces. -/
structure FlushI (w WL : World) (P O base : Nat) (A : Option Addr) (c : Nat) (xs out : List Int) (vo : Value) (acc : List Int) (W : World) (v : Value) : Prop where
  bO : Boxed W O 22 v
  bP : Boxed W P 22 (.slice A xs.length c)
  rP : Kd.R (Kd.int .i64) 3 W base (fun _ => True) (.slice A xs.length c) xs
  rO : Kd.R (Kd.int .i64) 3 W base (fun _ => True) v (out ++ acc)
  at_ : v.ownBlock = vo.ownBlock ∨ ∃ b, v.ownBlock = some b ∧ WL.heap.size ≤ b
  mv : Mv (fun i => i = O ∨ some i = vo.ownBlock) w W
  sz : WL.heap.size ≤ W.heap.size
theorem not3 : (3 : Nat) ≠ 22 := by decide
theorem flush_round {w WL W : World} {P O base : Nat} {A : Option Addr} {c : Nat} {xs out : List Int} {vo v : Value} {k : Nat} {acc : List Int} (hacc : acc.length ≤ 100000000) (h : FlushI w WL P O base A c xs out vo acc W v) (hk : 64 * k < xs.length) (hPO : P ≠ O)
    (ne : ∀ i, vo.ownBlock = some i → (Value.slice A xs.length c).ownBlock ≠ some i) (hlt : ∀ i, (Value.slice A xs.length c).ownBlock = some i → i < w.heap.size) (hw : w.heap.size ≤ WL.heap.size) (hb : base ≤ w.heap.size)
    (hx : xs.length ≤ 1000000) (ho : out.length ≤ 100000000) :
    ∃ (A' : Option Addr) (p : Nat) (v1 : Value) (W2 : World) (v2 : Value) (W3 : World), pieceV A xs.length k = .slice A' p p ∧ p ≤ 64 ∧
      (Builtin.append_ #[22, 22] 22 #[v, .slice (some ⟨W.heap.size, 0, none⟩) 1 1]).run Try.prog (W.alloc (.cells #[.int .i64 ((p : Int) - 1)] 3)) = .ok v1 W2 ∧
      (Builtin.append_ #[22, 22] 22 #[v1, .slice A' p p]).run Try.prog W2 = .ok v2 W3 ∧ Boxed W3 O 22 v ∧
      FlushI w WL P O base A c xs out vo (acc ++ pieceO xs k) (W3.setCell ⟨O, 0, none⟩ v2) v2 ∧ Mv (fun i => i = O ∨ some i = v.ownBlock) W (W3.setCell ⟨O, 0, none⟩ v2) := by
  obtain ⟨bO, bP, rP, rO, at_, mv, sz⟩ := h
  have hsw : w.heap.size ≤ W.heap.size := Nat.le_trans hw sz
  have nev : ∀ i, (Value.slice A xs.length c).ownBlock = some i → ¬ some i = v.ownBlock := fun i hi e => by
    rcases at_ with q | ⟨b, q, hb2⟩
    · exact ne i (q ▸ e.symm) hi
    · rw [q] at e
      injection e with e
      have := hlt i hi
      omega
  have hOv : some O ≠ v.ownBlock := Kd.R_ne rO bO not3
  have hPv : some P ≠ v.ownBlock := Kd.R_ne rO bP not3
  obtain ⟨v1, W2, run1, r1, g1, a1⟩ := appR_run base (Kd.R_alloc rO (.cells #[.int .i64 (((min 64 (xs.length - 64 * k) : Nat) : Int) - 1)] 3)) (C_one W (((min 64 (xs.length - 64 * k) : Nat) : Int) - 1)) (by rw [World.size_alloc]; omega) (by
    rw [List.length_append]; omega)
  have m1 : Mv (fun i => some i = v.ownBlock) W (W.alloc (.cells #[.int .i64 (((min 64 (xs.length - 64 * k) : Nat) : Int) - 1)] 3)) := Mv.of (World.grownBy_alloc W _ none) (fun _ _ e => by cases e)
  have m2 : Mv (fun i => some i = v.ownBlock) W W2 := m1.trans (Mv.of (S := fun i => some i = v.ownBlock) g1 (fun _ _ e => e.symm)) (fun _ _ e => e) (fun _ _ e => e)
  have hs1 : (W.alloc (.cells #[.int .i64 (((min 64 (xs.length - 64 * k) : Nat) : Int) - 1)] 3)).heap.size = W.heap.size + 1 := World.size_alloc _ _
  have rP2 := m2.row rP nev
  have cP2 : Kd.C (Kd.int .i64) W2 A xs.length xs := (Kd.R_reads' rP2).2.2
  have hc : xs.length ≤ c := (Kd.R_reads' rP2).2.1
  have cM := Kd.C_mid (lo := 64 * k) (hi := 64 * k + min 64 (xs.length - 64 * k)) cP2 (by omega) (by omega) hc
  rw [if_neg (by omega)] at cM
  have eM : ((xs.take (64 * k + min 64 (xs.length - 64 * k))).drop (64 * k)).length = min 64 (xs.length - 64 * k) := by rw [List.length_drop, List.length_take]; omega
  rw [eM] at cM
  have cM' : Kd.C (Kd.int .i64) W2 (A.map (·.add (64 * k))) (min 64 (xs.length - 64 * k)) ((xs.take (64 * k + min 64 (xs.length - 64 * k))).drop (64 * k)) := by
    have e1 : (Kd.int .i64).sz = 1 := rfl
    rw [e1, Nat.mul_one] at cM
    exact cM
  obtain ⟨v2, W3, run2, r2, g2, a2⟩ := appR_run (c := min 64 (xs.length - 64 * k)) base r1 cM' (by have := m2.size; omega) (by
    simp only [List.length_append, List.length_cons, List.length_nil]; omega)
  have a1' : ∀ i, i < W.heap.size → some i = v1.ownBlock → some i = v.ownBlock := fun i hi e => by
    rcases a1 with q | ⟨b, q, hb2⟩
    · rw [← q]; exact e
    · rw [q] at e
      injection e with e
      omega
  have m3 : Mv (fun i => some i = v.ownBlock) W W3 := m2.trans (Mv.of (S := fun i => some i = v1.ownBlock) g2 (fun _ _ e => e.symm)) (fun _ _ e => e) a1'
  have at2 : v2.ownBlock = v.ownBlock ∨ ∃ b, v2.ownBlock = some b ∧ W.heap.size ≤ b := by
    rcases a2 with q | ⟨b, q, hb2⟩
    · rcases a1 with q1 | ⟨b, q1, hb2⟩
      · exact .inl (q.trans q1)
      · exact .inr ⟨b, q.trans q1, by omega⟩
    · exact .inr ⟨b, q, by have := m2.size; omega⟩
  have bO3 : Boxed W3 O 22 v := m3.boxed bO hOv
  have bP3 : Boxed W3 P 22 (.slice A xs.length c) := m3.boxed bP hPv
  have rP3 := m3.row rP nev
  have mO : Mv (fun i => i = O) W3 (W3.setCell ⟨O, 0, none⟩ v2) := Mv.of (grownBy_setCell' W3 O v2) (fun i _ e => by injection e with e; exact e.symm)
  have hOv2 : some O ≠ v2.ownBlock := Kd.R_ne r2 bO3 not3
  have hOP : some O ≠ (Value.slice A xs.length c).ownBlock := Kd.R_ne rP3 bO3 not3
  have m4 : Mv (fun i => i = O ∨ some i = v.ownBlock) W (W3.setCell ⟨O, 0, none⟩ v2) := m3.trans mO (fun _ _ e => .inr e) (fun _ _ e => .inl e)
  refine ⟨A.map (·.add (64 * k)), min 64 (xs.length - 64 * k), v1, W2, v2, W3, rfl, by omega, run1, run2, bO3, ⟨bO3.set v2, mO.boxed bP3 hPO, mO.row rP3 (fun i hi e => hOP (by rw [hi, e])), ?_, ?_, ?_, Nat.le_trans sz m4.size⟩, m4⟩
  · have r4 := mO.row r2 (fun i hi e => hOv2 (by rw [hi, e]))
    have e : out ++ acc ++ [((min 64 (xs.length - 64 * k) : Nat) : Int) - 1] ++ (xs.take (64 * k + min 64 (xs.length - 64 * k))).drop (64 * k) = out ++ (acc ++ pieceO xs k) := by simp [pieceO]
    rw [← e]
    exact r4
  · rcases at2 with q | ⟨b, q, hb2⟩
    · rcases at_ with q1 | ⟨b, q1, hb2⟩
      · exact .inl (q.trans q1)
      · exact .inr ⟨b, q.trans q1, hb2⟩
    · exact .inr ⟨b, q, by omega⟩
  · refine mv.trans m4 (fun _ _ e => e) (fun i hi e => ?_)
    rcases e with e | e
    · exact .inl e
    · rcases at_ with q1 | ⟨b, q1, hb2⟩
      · exact .inr (q1 ▸ e)
      · rw [q1] at e
        injection e with e
        omega
end Go.Proofs.Ytjbgbnngfbhmjaa.Pk
