import Derived.Test.YtjbgbnngfbhmjaaPkJ
namespace Go.Proofs.Ytjbgbnngfbhmjaa.Pk
open Go.RowKit Go.Shelf Go.Proofs.YtjbgbnngfbhmjaaW.PrintWords Go.Proofs.YtjbgbnngfbhmjaaW.PrintLast Go.Proofs.YtjbgbnngfbhmjaaW.PrintMore
open Go.WideElems Go.ChangeMaps
set_option linter.unusedVariables false
set_option linter.unusedSimpArgs false
theorem boxed_below {W W' : World} {B : Nat} {t : TypeId} {v : Value} (b : Boxed W B t v) (h : Below W.heap.size W W') : Boxed W' B t v := (h.block B (Array.getElem?_eq_some_iff.1 b).1).trans b
theorem pack_init {w w1 w2 : World} {A0 : Option Addr} {c0 : Nat} {l0 : List Int} {vo vp : Value} (hb1 : Below (w.alloc (.cells #[.slice A0 l0.length c0] 22)).heap.size (w.alloc (.cells #[.slice A0 l0.length c0] 22)) w1) (hb2 : Below w1.heap.size w1 w2)
    (ho1 : Kd.R (Kd.int .i64) 3 w1 (w.alloc (.cells #[.slice A0 l0.length c0] 22)).heap.size (fun _ => True) vo []) (ho2 : Kd.R (Kd.int .i64) 3 w2 w1.heap.size (fun _ => True) vp []) :
    w.heap.size < w2.heap.size ∧ PackI w w2.heap.size A0 c0 l0 0 [] [] ((((w2.alloc (.cells #[vo] 22)).alloc (.cells #[vp] 22)).alloc (.map #[] 0)).alloc (.cells #[.map (some (w2.heap.size + 1 + 1))] 44)) vo vp #[] 0 := by
  have h1 := hb1.size
  have h2 := hb2.size
  rw [World.size_alloc] at h1
  have B0 := boxed_below (boxed_below (Boxed.new w 22 (.slice A0 l0.length c0)) hb1) hb2
  have BO := Boxed.new w2 22 vo
  have BP := Boxed.new (w2.alloc (.cells #[vo] 22)) 22 vp
  have BS := Boxed.new (((w2.alloc (.cells #[vo] 22)).alloc (.cells #[vp] 22)).alloc (.map #[] 0)) 44 (.map (some (w2.heap.size + 1 + 1)))
  have hM : (((w2.alloc (.cells #[vo] 22)).alloc (.cells #[vp] 22)).alloc (.map #[] 0)).heap[w2.heap.size + 1 + 1]? = some (.map #[] 0) := by
    have := World.alloc_heap_new ((w2.alloc (.cells #[vo] 22)).alloc (.cells #[vp] 22)) (.map #[] 0)
    rwa [World.size_alloc, World.size_alloc] at this
  have m4 : Mv (fun _ => False) (((w2.alloc (.cells #[vo] 22)).alloc (.cells #[vp] 22)).alloc (.map #[] 0)) ((((w2.alloc (.cells #[vo] 22)).alloc (.cells #[vp] 22)).alloc (.map #[] 0)).alloc (.cells #[.map (some (w2.heap.size + 1 + 1))] 44)) := Mv.of (World.grownBy_alloc _ _ none) (fun _ _ e => by cases e)
  simp only [World.size_alloc] at BP BS
  refine ⟨by omega, ⟨(((B0.alloc _).alloc _).alloc _).alloc _, ((BO.alloc _).alloc _).alloc _, (BP.alloc _).alloc _, BS, ?_, ?_, ⟨(m4.block _ (Array.getElem?_eq_some_iff.1 hM).1 (fun e => e)).trans hM, ?_, ?_, ?_, ?_, ?_, ?_⟩, ?_, ?_, ?_⟩⟩
  · exact Kd.R_alloc (Kd.R_alloc (Kd.R_alloc (Kd.R_alloc (Kd.R_below (Kd.R_lower ho1 (by rw [World.size_alloc]; omega)) hb2) _) _) _) _
  · exact Kd.R_alloc (Kd.R_alloc (Kd.R_alloc (Kd.R_alloc (Kd.R_lower ho2 (by omega)) _) _) _) _
  · simp
  · intro a b c _ _ _ _
    rfl
  · simp
  · simp
  · simp
  · simp
  · intro i hi e
    have := Kd.R_lt ho1 i hi
    have := Kd.R_base ho2 i e
    omega
  · rintro k ⟨e, he, _⟩
    simp at he
  · refine below_alloc (below_alloc (below_alloc (below_alloc ?_ _) _) _) _
    exact ((below_alloc (Below.refl _ w) _).trans (hb1.mono (by rw [World.size_alloc]; omega))).trans (hb2.mono (by omega))
/-- Three bytes, told of as a slice, an array's address and three cells. -/
theorem key_facts {W : World} {A0 : Option Addr} {c0 : Nat} {l : List Int} {a : Int} (hC : Kd.C (Kd.int .i64) W A0 l.length l) (hc : l.length ≤ c0) (h0 : 0 ≤ a) (h3 : a + 3 ≤ (l.length : Int)) :
    ∃ (ad ad' : Addr) (c' : Nat), A0 = some ad ∧ (∀ W : World, (Instr.slice 22 (.slice (some ad) l.length c0) (some (.int .i64 a)) (some (.int .i64 (a + 3))) none).run Try.prog W = .ok (.slice (some ad') 3 c') W) ∧
      (∀ W : World, (Instr.arrayAt 46 (.slice (some ad') 3 c')).run Try.prog W = .ok (.pointer (some ad')) W) ∧ W.cell? ad' = some (.int .i64 (rd l a)) ∧ W.cell? ⟨ad'.block, ad'.off + 1, none⟩ = some (.int .i64 (rd l (a + 1))) ∧ W.cell? ⟨ad'.block, ad'.off + 2, none⟩ = some (.int .i64 (rd l (a + 2))) := by
  obtain ⟨ad, e1, hrd⟩ : ∃ ad, A0 = some ad ∧ ∀ j : Nat, j < l.length → W.cell? (ad.add j) = some (.int .i64 (rd l j)) := by
    obtain ⟨ad, e1, _⟩ := Kd.at_int hC a h0 (by omega)
    refine ⟨ad, e1, fun j hj => ?_⟩
    obtain ⟨ad2, e2, h2⟩ := Kd.at_int hC (j : Int) (by omega) (by omega)
    rw [e1] at e2
    cases e2
    simpa using h2
  subst e1
  obtain ⟨i0, hi0, _, hsz, _⟩ := info_parts info3
  have hcut0 := cut_mid 22 3 .i64 .i64 Try.underlying22 hi0 1 hsz (some ad) l.length c0 a (a + 3) h0 (by omega) (by omega) hc
  have e3 : (a + 3).toNat - a.toNat = 3 := by omega
  rw [if_neg (by omega), e3, Nat.mul_one] at hcut0
  obtain ⟨ad', had'⟩ : ∃ ad', ad' = ad.add a.toNat := ⟨_, rfl⟩
  refine ⟨ad, ad', c0 - a.toNat, rfl, fun W => by rw [hcut0 W, had']; rfl, arr_run ad' _, ?_, ?_, ?_⟩
  · rw [had']
    have := hrd a.toNat (by omega)
    rw [Int.toNat_of_nonneg h0] at this
    exact this
  · have hy1 : W.cell? (ad'.add 1) = some (.int .i64 (rd l (a + 1))) := by
      rw [had', Addr.add_add]
      have := hrd (a.toNat + 1) (by omega)
      rw [show ((a.toNat + 1 : Nat) : Int) = a + 1 by omega] at this
      exact this
    rw [had'] at hy1 ⊢
    simpa [Addr.add] using hy1
  · have hz1 : W.cell? (ad'.add 2) = some (.int .i64 (rd l (a + 2))) := by
      rw [had', Addr.add_add]
      have := hrd (a.toNat + 2) (by omega)
      rw [show ((a.toNat + 2 : Nat) : Int) = a + 2 by omega] at this
      exact this
    rw [had'] at hz1 ⊢
    simpa [Addr.add] using hz1
theorem seeF_mem {l : List Int} {n : Int} {f : Int × Int × Int → List Int} {q : Int × Int × Int} {p : Int} (h : p ∈ seeF l n f q) : p ∈ f q ∨ p = n := by
  unfold seeF at h
  by_cases c : n + 3 ≤ (l.length : Int)
  · rw [if_pos c] at h
    (try dsimp only at h)
    by_cases d : q = keyAt l n
    · rw [if_pos d, List.mem_append, List.mem_singleton] at h
      exact h
    · rw [if_neg d] at h
      exact .inl h
  · rw [if_neg c] at h
    exact .inl h
theorem seeF_len {l : List Int} {n : Int} {f : Int × Int × Int → List Int} (q : Int × Int × Int) : (seeF l n f q).length ≤ (f q).length + 1 := by
  unfold seeF
  by_cases c : n + 3 ≤ (l.length : Int)
  · rw [if_pos c]
    (try dsimp only)
    by_cases d : q = keyAt l n
    · rw [if_pos d, List.length_append, List.length_singleton]
      omega
    · rw [if_neg d]
      omega
  · rw [if_neg c]
    omega
theorem seenF_rng (l : List Int) (n : Nat) : ∀ q p, p ∈ seenF l n q → 0 ≤ p ∧ p < (n : Int) := by
  induction n with
  | zero => intro q p h; simp [seenF] at h
  | succ n ih =>
    intro q p h
    rcases seeF_mem (show p ∈ seeF l (n : Int) (seenF l n) q from h) with h | rfl
    · have := ih q p h
      omega
    · omega
theorem seenF_len (l : List Int) (n : Nat) : ∀ q, (seenF l n q).length ≤ n := by
  induction n with
  | zero => intro q; simp [seenF]
  | succ n ih =>
    intro q
    have h1 := ih q
    have h2 : (seenF l (n + 1) q).length ≤ (seenF l n q).length + 1 := seeF_len (l := l) (n := (n : Int)) (f := seenF l n) q
    omega
theorem matchAt_calls (A0 : Option Addr) (c0 : Nat) (l0 : List Int) (a : Int) (A2 : Option Addr) (c2 : Nat) (ps : List Int) (w : World)
    (hr0 : Kd.C (Kd.int .i64) w A0 l0.length l0) (hc0 : l0.length ≤ c0) (hr2 : Kd.C (Kd.int .i64) w A2 ps.length ps) (hl : l0.length ≤ 1000000) (hp : ps.length ≤ 1000000) (ha : 0 ≤ a ∧ a < l0.length) (hb : ∀ p ∈ ps, 0 ≤ p ∧ p < a) :
    Calls Try.prog 43 #[.slice A0 l0.length c0, .int .i64 a, .slice A2 ps.length c2] w fun e w' => e = .returned (.tuple #[.int .i64 (matchP l0 a ps.reverse (0, 0)).1, .int .i64 (matchP l0 a ps.reverse (0, 0)).2]) ∧ Below w.heap.size w w' :=
  callsIn_wide.1 (matchAt_in Fence.wide 3 trivial trivial trivial rfl (by decide) A0 c0 l0 a A2 c2 ps w hr0 hc0 hr2 hl hp ha hb)
theorem flush_calls (P O base : Nat) (A : Option Addr) (c : Nat) (xs out : List Int) (vo : Value) (w : World) (hPO : P ≠ O)
    (bP : Boxed w P 22 (.slice A xs.length c)) (bO : Boxed w O 22 vo) (rP : Kd.R (Kd.int .i64) 3 w base (fun _ => True) (.slice A xs.length c) xs) (rO : Kd.R (Kd.int .i64) 3 w base (fun _ => True) vo out)
    (ne : ∀ i, vo.ownBlock = some i → (Value.slice A xs.length c).ownBlock ≠ some i) (hb : base ≤ w.heap.size) (hx : xs.length ≤ 1000000) (ho : out.length ≤ 10000000) :
    Calls Try.prog 40 #[.pointer (some ⟨P, 0, none⟩), .pointer (some ⟨O, 0, none⟩)] w fun e w' => e = .returned (.tuple #[]) ∧ ∃ v, FlushR w P O base A c xs out vo w' v :=
  callsIn_wide.1 (flush_in Fence.wide 3 trivial trivial trivial rfl (by decide) P O base A c xs out vo w hPO bP bO rP rO ne hb hx ho)
theorem Below.mvF {w w' : World} (h : Below w.heap.size w w') : Mv (fun _ => False) w w' := ⟨h.os, h.tape, h.output, h.size, fun k hk _ => h.block k hk⟩
/-- What is carried through the bytes. -/
def PackS (w : World) (g : Nat) (A0 : Option Addr) (c0 : Nat) (l0 : List Int) (a : Nat) (out plain : List Int) (W : World) : Prop := ∃ vo vp es clock, PackI w g A0 c0 l0 a out plain W vo vp es clock
theorem cell_on {W : World} {p : Addr} {v : Value} (h : W.cell? p = some v) (o : Obj) : (W.alloc o).cell? p = some v := (World.cell?_alloc_some W p o (by rw [h]; rfl)).trans h
end Go.Proofs.Ytjbgbnngfbhmjaa.Pk
