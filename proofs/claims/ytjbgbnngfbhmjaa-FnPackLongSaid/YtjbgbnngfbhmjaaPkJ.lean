import Derived.Test.YtjbgbnngfbhmjaaPkI
namespace Go.Proofs.Ytjbgbnngfbhmjaa.Pk
open Go.RowKit Go.Shelf Go.Proofs.YtjbgbnngfbhmjaaW.PrintWords Go.Proofs.YtjbgbnngfbhmjaaW.PrintLast Go.Proofs.YtjbgbnngfbhmjaaW.PrintMore
open Go.WideElems Go.ChangeMaps
set_option linter.unusedVariables false
set_option linter.unusedSimpArgs false
/-- The longest match at a place, among the places that stand in the map. -/
def best2 (xs : List Int) (a : Int) (ps : List Int) : Int × Int := if a + 3 ≤ (xs.length : Int) then matchP xs a ps.reverse (0, 0) else (0, 0)
def seenF (xs : List Int) : Nat → (Int × Int × Int → List Int)
  | 0 => fun _ => []
  | n + 1 => seeF xs (n : Int) (seenF xs n)
def outP (xs : List Int) : List Int := piecesO xs (upto id ((xs.length + 63) / 64))
def packG (xs : List Int) : Nat → List Int → List Int → Nat → Option (List Int)
  | 0, _, _, _ => none
  | f + 1, out, plain, a => if a < xs.length then
      (if (best2 xs (a : Int) (seenF xs a (keyAt xs a))).1 < 3 then packG xs f out (plain ++ [rd xs (a : Int)]) (a + 1)
        else packG xs f (out ++ outP plain ++ [(best2 xs (a : Int) (seenF xs a (keyAt xs a))).1 + 61, (best2 xs (a : Int) (seenF xs a (keyAt xs a))).2]) [] (a + (best2 xs (a : Int) (seenF xs a (keyAt xs a))).1.toNat))
    else some (out ++ outP plain)
theorem makeMap_run (W : World) : (Instr.makeMap 44 none).run Try.prog W = .ok (.map (some W.heap.size)) (W.alloc (.map #[] 0)) := by
  first | rfl | (simp [Instr.makeMap, newObj]; rfl)
/-- What pack holds when so many bytes have been looked at. -/
structure PackI (w : World) (g : Nat) (A0 : Option Addr) (c0 : Nat) (l0 : List Int) (a : Nat) (out plain : List Int) (W : World) (vo vp : Value) (es : Array MapEntry) (clock : Nat) : Prop where
  bI : Boxed W w.heap.size 22 (.slice A0 l0.length c0)
  bO : Boxed W g 22 vo
  bP : Boxed W (g + 1) 22 vp
  bS : Boxed W (g + 1 + 1 + 1) 44 (.map (some (g + 1 + 1)))
  rO : Kd.R (Kd.int .i64) 3 W w.heap.size (fun _ => True) vo out
  rP : Kd.R (Kd.int .i64) 3 W w.heap.size (fun _ => True) vp plain
  S : SeenC W (g + 1 + 1) w.heap.size (seenF l0 a) es clock
  nOP : ∀ i, vo.ownBlock = some i → vp.ownBlock ≠ some i
  nS : ∀ k, Bl es k → some k ≠ vo.ownBlock ∧ some k ≠ vp.ownBlock
  below : Below w.heap.size w W
theorem not3' : (3 : Nat) ≠ 44 := by decide
theorem row_ne {W : World} {base B : Nat} {t : TypeId} {u v : Value} {xs : List Int} (r : Kd.R (Kd.int .i64) 3 W base (fun _ => True) v xs) (b : Boxed W B t u) (ht : (3 : Nat) ≠ t) : some B ≠ v.ownBlock := Kd.R_ne r b ht
theorem map_ne {W : World} {B mb : Nat} {t : TypeId} {u : Value} {es : Array MapEntry} {clock : Nat} (b : Boxed W B t u) (hm : W.heap[mb]? = some (.map es clock)) : B ≠ mb := fun e => by
  have b' : W.heap[B]? = some (.cells #[u] t (0, 0)) := b
  rw [e, hm] at b'
  cases b'
theorem bl_ne {W : World} {mb base B : Nat} {f : Int × Int × Int → List Int} {es : Array MapEntry} {clock : Nat} {t : TypeId} {u : Value} (S : SeenC W mb base f es clock) (b : Boxed W B t u) (ht : (3 : Nat) ≠ t) : ¬ Bl es B := fun ⟨e, he, hk⟩ => by
  obtain ⟨_, _, _, _, _, _, _, q5⟩ := S.key e he
  exact row_ne q5 b ht hk.symm
theorem fresh_ne {W : World} {v v1 : Value} {k : Nat} (hat : v1.ownBlock = v.ownBlock ∨ ∃ b, v1.ownBlock = some b ∧ W.heap.size ≤ b) (hk : k < W.heap.size) (h : some k ≠ v.ownBlock) : some k ≠ v1.ownBlock := by
  rcases hat with q | ⟨b, q, hb⟩
  · rw [q]; exact h
  · rw [q]
    intro e
    injection e with e
    omega
/-- A byte is told as it is. -/
theorem pack_plain {w W : World} {g : Nat} {A0 : Option Addr} {c0 : Nat} {l0 : List Int} {a : Nat} {out plain : List Int} {vo vp : Value} {es : Array MapEntry} {clock : Nat} (h : PackI w g A0 c0 l0 a out plain W vo vp es clock) (x : Int) (hp : plain.length ≤ 1000000) (hg : w.heap.size ≤ g) :
    ∃ (v1 : Value) (W2 : World), (Builtin.append_ #[22, 22] 22 #[vp, .slice (some ⟨W.heap.size, 0, none⟩) 1 1]).run Try.prog (W.alloc (.cells #[.int .i64 x] 3)) = .ok v1 W2 ∧ Boxed W2 (g + 1) 22 vp ∧
      PackI w g A0 c0 l0 a out (plain ++ [x]) (W2.setCell ⟨g + 1, 0, none⟩ v1) vo v1 es clock := by
  obtain ⟨bI, bO, bP, bS, rO, rP, S, nOP, nS, below⟩ := h
  have mA : Mv (fun i => some i = vp.ownBlock) W (W.alloc (.cells #[.int .i64 x] 3)) := Mv.of (World.grownBy_alloc W _ none) (fun _ _ e => by cases e)
  obtain ⟨v1, W2, run1, r1, g1, a1⟩ := appR_run w.heap.size (Kd.R_alloc rP (.cells #[.int .i64 x] 3)) (C_one W x) (by rw [World.size_alloc]; have := below.size; omega) (by omega)
  have hat : v1.ownBlock = vp.ownBlock ∨ ∃ b, v1.ownBlock = some b ∧ W.heap.size ≤ b := by
    rcases a1 with q | ⟨b, q, hb⟩
    · exact .inl q
    · rw [World.size_alloc] at hb
      exact .inr ⟨b, q, by omega⟩
  have m2 : Mv (fun i => some i = vp.ownBlock) W W2 := mA.trans (Mv.of (S := fun i => some i = vp.ownBlock) g1 (fun _ _ e => e.symm)) (fun _ _ e => e) (fun _ _ e => e)
  have bP2 := m2.boxed bP (row_ne rP bP not3)
  have bO2 := m2.boxed bO (row_ne rP bO not3)
  have bI2 := m2.boxed bI (row_ne rP bI not3)
  have bS2 := m2.boxed bS (row_ne rP bS not3')
  have rO2 := m2.row rO (fun i hi e => nOP i hi e.symm)
  have S2 := S.mv m2 (fun e => by
    have hne : some (g + 1 + 1) ≠ vp.ownBlock := fun e => own_ne_map rP S.obj (g + 1 + 1) e.symm rfl
    exact hne e) (fun k hk e => (nS k hk).2 e)
  have mP : Mv (fun i => i = g + 1) W2 (W2.setCell ⟨g + 1, 0, none⟩ v1) := mv1 W2 ⟨g + 1, 0, none⟩ v1
  have hsl := S.lt
  refine ⟨v1, W2, run1, bP2, ⟨mP.boxed bI2 (by omega), mP.boxed bO2 (by omega), bP2.set v1, mP.boxed bS2 (by omega), mP.row rO2 (fun i hi e => row_ne rO2 bP2 not3 (by rw [hi, e])), mP.row r1 (fun i hi e => row_ne r1 bP2 not3 (by rw [hi, e])), S2.mv mP (by omega) (fun k hk e => bl_ne S2 bP2 not3 (e ▸ hk)), ?_, ?_, ?_⟩⟩
  · intro i hi e
    exact fresh_ne hat (Kd.R_lt rO i hi) (fun q => nOP i hi q.symm) e.symm
  · exact fun k hk => ⟨(nS k hk).1, fresh_ne hat (hsl k hk).1 (nS k hk).2⟩
  · refine (below.trans (m2.below (n := w.heap.size) below.size (fun k hk e => ?_))).trans (mP.below (n := w.heap.size) (Nat.le_trans below.size m2.size) (fun k hk e => by omega))
    have := Kd.R_base rP k e.symm
    omega
theorem C_two (W : World) (x y : Int) : Kd.C (Kd.int .i64) (W.alloc (.cells #[.int .i64 x, .int .i64 y] 3)) (some ⟨W.heap.size, 0, none⟩) 2 [x, y] := by
  have hb : (W.alloc (.cells #[.int .i64 x, .int .i64 y] 3)).heap[W.heap.size]? = some (.cells #[.int .i64 x, .int .i64 y] 3 (0, 0)) := World.alloc_heap_new W _
  have h0 := (blk_cell hb 0).trans (show _ = some (Value.int .i64 x) from rfl)
  have h1 := (blk_cell hb 1).trans (show _ = some (Value.int .i64 y) from rfl)
  refine ⟨rfl, by decide, fun _ => ⟨_, rfl, fun j p hp => ?_⟩⟩
  match j, hp with
  | 0, hp =>
    cases hp
    exact ⟨[.int .i64 x], rfl, rfl, fun i u hu => by
      match i, hu with
      | 0, hu => cases hu; exact h0
      | i + 1, hu => simp at hu⟩
  | 1, hp =>
    cases hp
    exact ⟨[.int .i64 y], rfl, rfl, fun i u hu => by
      match i, hu with
      | 0, hu => cases hu; exact h1
      | i + 1, hu => simp at hu⟩
  | j + 2, hp => simp at hp
/-- A repeat is told. -/
theorem pack_out {w W : World} {g : Nat} {A0 : Option Addr} {c0 : Nat} {l0 : List Int} {a : Nat} {out plain : List Int} {vo vp : Value} {es : Array MapEntry} {clock : Nat} (h : PackI w g A0 c0 l0 a out plain W vo vp es clock) (x y : Int) (hp : out.length ≤ 10000000) (hg : w.heap.size < g) :
    ∃ (v1 : Value) (W2 : World), (Builtin.append_ #[22, 22] 22 #[vo, .slice (some ⟨W.heap.size, 0, none⟩) 2 2]).run Try.prog (W.alloc (.cells #[.int .i64 x, .int .i64 y] 3)) = .ok v1 W2 ∧ Boxed W2 g 22 vo ∧
      PackI w g A0 c0 l0 a (out ++ [x, y]) plain (W2.setCell ⟨g, 0, none⟩ v1) v1 vp es clock := by
  obtain ⟨bI, bO, bP, bS, rO, rP, S, nOP, nS, below⟩ := h
  have mA : Mv (fun i => some i = vo.ownBlock) W (W.alloc (.cells #[.int .i64 x, .int .i64 y] 3)) := Mv.of (World.grownBy_alloc W _ none) (fun _ _ e => by cases e)
  obtain ⟨v1, W2, run1, r1, g1, a1⟩ := appR_run w.heap.size (Kd.R_alloc rO (.cells #[.int .i64 x, .int .i64 y] 3)) (C_two W x y) (by rw [World.size_alloc]; have := below.size; omega) (by omega)
  have hat : v1.ownBlock = vo.ownBlock ∨ ∃ b, v1.ownBlock = some b ∧ W.heap.size ≤ b := by
    rcases a1 with q | ⟨b, q, hb⟩
    · exact .inl q
    · rw [World.size_alloc] at hb
      exact .inr ⟨b, q, by omega⟩
  have m2 : Mv (fun i => some i = vo.ownBlock) W W2 := mA.trans (Mv.of (S := fun i => some i = vo.ownBlock) g1 (fun _ _ e => e.symm)) (fun _ _ e => e) (fun _ _ e => e)
  have bP2 := m2.boxed bP (row_ne rO bP not3)
  have bO2 := m2.boxed bO (row_ne rO bO not3)
  have bI2 := m2.boxed bI (row_ne rO bI not3)
  have bS2 := m2.boxed bS (row_ne rO bS not3')
  have rP2 := m2.row rP (fun i hi e => nOP i e.symm hi)
  have S2 := S.mv m2 (fun e => by
    have hne : some (g + 1 + 1) ≠ vo.ownBlock := fun e => own_ne_map rO S.obj (g + 1 + 1) e.symm rfl
    exact hne e) (fun k hk e => (nS k hk).1 e)
  have mP : Mv (fun i => i = g) W2 (W2.setCell ⟨g, 0, none⟩ v1) := mv1 W2 ⟨g, 0, none⟩ v1
  have hsl := S.lt
  refine ⟨v1, W2, run1, bO2, ⟨mP.boxed bI2 ?_, bO2.set v1, mP.boxed bP2 (by omega), mP.boxed bS2 (by omega), mP.row r1 (fun i hi e => row_ne r1 bO2 not3 (by rw [hi, e])), mP.row rP2 (fun i hi e => row_ne rP2 bO2 not3 (by rw [hi, e])), S2.mv mP (by omega) (fun k hk e => bl_ne S2 bO2 not3 (e ▸ hk)), ?_, ?_, ?_⟩⟩
  · intro e
    omega
  · intro i hi e
    exact fresh_ne hat (Kd.R_lt rP i e) (fun q => nOP i q.symm e) hi.symm
  · exact fun k hk => ⟨fresh_ne hat (hsl k hk).1 (nS k hk).1, (nS k hk).2⟩
  · refine (below.trans (m2.below (n := w.heap.size) below.size (fun k hk e => ?_))).trans (mP.below (n := w.heap.size) (Nat.le_trans below.size m2.size) (fun k hk e => by omega))
    have := Kd.R_base rO k e.symm
    omega
/-- A place is kept. -/
theorem pack_see {w W W' : World} {g : Nat} {A0 : Option Addr} {c0 : Nat} {l0 : List Int} {a : Nat} {out plain : List Int} {vo vp : Value} {es : Array MapEntry} {clock : Nat} (h : PackI w g A0 c0 l0 a out plain W vo vp es clock) (hg : w.heap.size < g)
    (s : SeeR (a : Int) (g + 1 + 1) w.heap.size l0 (seenF l0 a) es W W') : ∃ es' clock', PackI w g A0 c0 l0 (a + 1) out plain W' vo vp es' clock' := by
  obtain ⟨bI, bO, bP, bS, rO, rP, S, nOP, nS, below⟩ := h
  obtain ⟨es', clock', S', bl, m⟩ := s
  have hx : ∀ {B : Nat} {t : TypeId} {u : Value}, Boxed W B t u → (3 : Nat) ≠ t → ¬ (B = g + 1 + 1 ∨ Bl es B) := fun {B t u} b ht e => by
    rcases e with e | e
    · exact map_ne b S.obj e
    · exact bl_ne S b ht e
  refine ⟨es', clock', m.boxed bI (hx bI not3), m.boxed bO (hx bO not3), m.boxed bP (hx bP not3), m.boxed bS (hx bS not3'), m.row rO (fun i hi e => ?_), m.row rP (fun i hi e => ?_), S', nOP, fun k hk => ?_, below.trans (m.below (n := w.heap.size) below.size (fun k hk e => ?_))⟩
  · rcases e with e | e
    · exact own_ne_map rO S.obj i hi e
    · exact (nS i e).1 hi.symm
  · rcases e with e | e
    · exact own_ne_map rP S.obj i hi e
    · exact (nS i e).2 hi.symm
  · rcases bl k hk with q | q
    · exact nS k q
    · exact ⟨fun e => by have := Kd.R_lt rO k e.symm; omega, fun e => by have := Kd.R_lt rP k e.symm; omega⟩
  · rcases e with e | ⟨e, he, hk2⟩
    · omega
    · obtain ⟨_, _, _, _, _, _, _, q5⟩ := S.key e he
      have := Kd.R_base q5 k hk2
      omega
/-- What is plain so far is told. -/
theorem pack_flush {w W W' : World} {g : Nat} {A0 : Option Addr} {c0 : Nat} {l0 : List Int} {a : Nat} {out plain : List Int} {vo : Value} {Ap : Option Addr} {cp : Nat} {es : Array MapEntry} {clock : Nat} (h : PackI w g A0 c0 l0 a out plain W vo (.slice Ap plain.length cp) es clock) (hg : w.heap.size < g) {v : Value}
    (s : FlushR W (g + 1) g w.heap.size Ap cp plain out vo W' v) : PackI w g A0 c0 l0 a (out ++ outP plain) [] W' v (.slice Ap 0 cp) es clock := by
  obtain ⟨bI, bO, bP, bS, rO, rP, S, nOP, nS, below⟩ := h
  obtain ⟨bO', bP', rP', rO', at_, m⟩ := s
  have eo : ∀ i, (Value.slice Ap 0 cp).ownBlock = some i → (Value.slice Ap plain.length cp).ownBlock = some i := fun i hi => by
    cases Ap with
    | none => exact hi
    | some ad => exact hi
  have hsl := S.lt
  refine ⟨m.boxed bI (fun e => ?_), bO', bP', m.boxed bS (fun e => ?_), rO', rP', S.mv m (fun e => ?_) (fun k hk e => ?_), fun i hi e => ?_, fun k hk => ⟨fresh_ne at_ (hsl k hk).1 (nS k hk).1, fun e => (nS k hk).2 (eo k e.symm).symm⟩, below.trans (m.below (n := w.heap.size) below.size (fun k hk e => ?_))⟩
  · rcases e with e | e | e
    · omega
    · omega
    · exact row_ne rO bI not3 e
  · rcases e with e | e | e
    · omega
    · omega
    · exact row_ne rO bS not3' e
  · rcases e with e | e | e
    · omega
    · omega
    · exact own_ne_map rO S.obj _ e.symm rfl
  · rcases e with e | e | e
    · exact bl_ne S bP not3 (e ▸ hk)
    · exact bl_ne S bO not3 (e ▸ hk)
    · exact (nS k hk).1 e
  · exact fresh_ne at_ (Kd.R_lt rP i (eo i e)) (fun q => nOP i q.symm (eo i e)) hi.symm
  · rcases e with e | e | e
    · omega
    · omega
    · have := Kd.R_base rO k e.symm
      omega
theorem PackI.mv {w W W' : World} {g : Nat} {A0 : Option Addr} {c0 : Nat} {l0 : List Int} {a : Nat} {out plain : List Int} {vo vp : Value} {es : Array MapEntry} {clock : Nat} (h : PackI w g A0 c0 l0 a out plain W vo vp es clock) (m : Mv (fun _ => False) W W') : PackI w g A0 c0 l0 a out plain W' vo vp es clock := by
  obtain ⟨bI, bO, bP, bS, rO, rP, S, nOP, nS, below⟩ := h
  exact ⟨m.boxed bI (fun e => e), m.boxed bO (fun e => e), m.boxed bP (fun e => e), m.boxed bS (fun e => e), m.row rO (fun _ _ e => e), m.row rP (fun _ _ e => e), S.mv m (fun e => e) (fun _ _ e => e), nOP, nS, below.trans (m.below (n := w.heap.size) below.size (fun _ _ e => e))⟩
end Go.Proofs.Ytjbgbnngfbhmjaa.Pk
