import Derived.Test.YtjbgbnngfbhmjaaPkE
namespace Go.Proofs.Ytjbgbnngfbhmjaa.Pk
open Go.RowKit Go.Shelf Go.Proofs.YtjbgbnngfbhmjaaW.PrintWords Go.Proofs.YtjbgbnngfbhmjaaW.PrintLast Go.Proofs.YtjbgbnngfbhmjaaW.PrintMore
set_option linter.unusedVariables false
set_option linter.unusedSimpArgs false
attribute [local go_sem] Oper.semAt_some max2_int min2_int max_two min_two

/-- What a flush leaves. -/
structure FlushR (w : World) (P O base : Nat) (A : Option Addr) (c : Nat) (xs out : List Int) (vo : Value) (w' : World) (v : Value) : Prop where
  bO : Boxed w' O 22 v
  bP : Boxed w' P 22 (.slice A 0 c)
  rP : Kd.R (Kd.int .i64) 3 w' base (fun _ => True) (.slice A 0 c) []
  rO : Kd.R (Kd.int .i64) 3 w' base (fun _ => True) v (out ++ piecesO xs (upto id ((xs.length + 63) / 64)))
  at_ : v.ownBlock = vo.ownBlock ∨ ∃ b, v.ownBlock = some b ∧ w.heap.size ≤ b
  mv : Mv (fun i => i = P ∨ i = O ∨ some i = vo.ownBlock) w w'
theorem FlushI.grown {w WL W W' : World} {P O base : Nat} {A : Option Addr} {c : Nat} {xs out acc : List Int} {vo v : Value} {row : Option Nat} (h : FlushI w WL P O base A c xs out vo acc W v) (hg : W.grownBy W' row) (hw : w.heap.size ≤ WL.heap.size)
    (hr : ∀ r, row = some r → WL.heap.size ≤ r ∧ ∃ o : Obj, W.heap[r]? = some o ∧ o.isCells = false) : FlushI w WL P O base A c xs out vo acc W' v := by
  have nb : ∀ {B : Nat} {t : TypeId} {cs : Array Value}, W.heap[B]? = some (.cells cs t (0, 0)) → ¬ some B = row := fun {B t cs} hB e => by
    obtain ⟨_, o, ho, hc⟩ := hr B e.symm
    rw [hB] at ho
    cases ho
    cases hc
  have m : Mv (fun i => some i = row) W W' := Mv.of hg (fun _ _ e => e.symm)
  refine ⟨m.boxed h.bO (nb h.bO), m.boxed h.bP (nb h.bP), m.row h.rP (fun i hi => ?_), m.row h.rO (fun i hi => ?_), h.at_, h.mv.trans m (fun _ _ e => e) (fun i hi e => ?_), Nat.le_trans h.sz hg.size⟩
  · obtain ⟨cs, hcs⟩ := Kd.R_typed h.rP i hi
    exact nb hcs
  · obtain ⟨cs, hcs⟩ := Kd.R_typed h.rO i hi
    exact nb hcs
  · have := (hr i e.symm).1
    omega
theorem keepsFrom_mv {S : Nat → Prop} {W W' : World} {B : Nat} (h : Mv S W W') (hc : ∀ i, S i → i < W.heap.size → ∃ o : Obj, W.heap[i]? = some o ∧ o.isCells = true) : KeepsFrom B W W' :=
  ⟨h.size, fun i o _ hi ho => by
    have hlt : i < W.heap.size := (Array.getElem?_eq_some_iff.1 hi).1
    refine (h.block i hlt (fun s => ?_)).trans hi
    obtain ⟨o2, h2, c2⟩ := hc i s hlt
    rw [hi] at h2
    cases h2
    rw [ho] at c2
    cases c2⟩
set_option maxRecDepth 100000 in
set_option maxHeartbeats 4000000 in
theorem flush_in (F : Fence) (n : Nat) (h40 : F.fn 40) (h41 : F.fn 41) (h45 : F.fn 45) (hro : F.round = none) (hn : 3 ≤ n) (P O base : Nat) (A : Option Addr) (c : Nat) (xs out : List Int) (vo : Value) (w : World) (hPO : P ≠ O)
    (bP : Boxed w P 22 (.slice A xs.length c)) (bO : Boxed w O 22 vo) (rP : Kd.R (Kd.int .i64) 3 w base (fun _ => True) (.slice A xs.length c) xs) (rO : Kd.R (Kd.int .i64) 3 w base (fun _ => True) vo out)
    (ne : ∀ i, vo.ownBlock = some i → (Value.slice A xs.length c).ownBlock ≠ some i) (hb : base ≤ w.heap.size) (hx : xs.length ≤ 1000000) (ho : out.length ≤ 10000000) :
    CallsIn F n Try.prog 40 #[.pointer (some ⟨P, 0, none⟩), .pointer (some ⟨O, 0, none⟩)] w fun e w' => e = .returned (.tuple #[]) ∧ ∃ v, FlushR w P O base A c xs out vo w' v := by
  have h1 : 1 ≤ n := by omega
  refine callsIn_of_wp_marks Try.func40 rfl h40 ?_ hro
  simp only [Try.ntmps40, List.size_toArray, List.length_cons, List.length_nil, Nat.reduceAdd, Nat.reduceSub, Array.replicate_succ, Array.replicate_zero, List.push_toArray, List.append_toArray, List.nil_append, List.cons_append]
  have hzP := bP.cell
  gi_wp2_with (gi_at_call 41; refine (chunk_in F (n - 1) h41 hro _ _ _ _).mono ?_; rintro e w' ⟨rfl, rfl⟩)
  obtain ⟨WL, hWL⟩ : ∃ WL, WL = (w.alloc (.cells #[.slice A xs.length c] 22)).alloc (.cells #[.int .i64 64] 3) := ⟨_, rfl⟩
  have m0 : Mv (fun i => i = O ∨ some i = vo.ownBlock) w WL := by
    rw [hWL]
    exact (Mv.of (S := fun i => i = O ∨ some i = vo.ownBlock) (World.grownBy_alloc w _ none) (fun _ _ e => by cases e)).trans (Mv.of (S := fun i => i = O ∨ some i = vo.ownBlock) (World.grownBy_alloc _ _ none) (fun _ _ e => by cases e)) (fun _ _ e => e) (fun _ _ e => e)
  have hsz : WL.heap.size = w.heap.size + 1 + 1 := by rw [hWL]; simp only [World.size_alloc]
  have cs1 : WL.cell? ⟨w.heap.size, 0, none⟩ = some (.slice A xs.length c) := by
    rw [hWL]
    exact ((Boxed.new w 22 (.slice A xs.length c)).alloc _).cell
  have cs2 : WL.cell? ⟨w.heap.size + 1, 0, none⟩ = some (.int .i64 64) := by
    rw [hWL]
    have B := Boxed.new (w.alloc (.cells #[.slice A xs.length c] 22)) 3 (.int .i64 64)
    rw [World.size_alloc] at B
    exact B.cell
  have I0 : FlushI w WL P O base A c xs out vo [] WL vo := by
    have e2 : WL = (w.alloc (.cells #[.slice A xs.length c] 22)).alloc (.cells #[.int .i64 64] 3) := hWL
    refine ⟨?_, ?_, ?_, ?_, .inl rfl, m0, Nat.le_refl _⟩
    · rw [e2]; exact (bO.alloc _).alloc _
    · rw [e2]; exact (bP.alloc _).alloc _
    · rw [e2]; exact Kd.R_alloc (Kd.R_alloc rP _) _
    · rw [e2, List.append_nil]; exact Kd.R_alloc (Kd.R_alloc rO _) _
  have hc : xs.length ≤ c := (Kd.R_reads' rP).2.1
  have hltA := Kd.R_lt rP
  have hltO := Kd.R_lt rO
  have hOw : O < w.heap.size := (Array.getElem?_eq_some_iff.1 bO).1
  have hPw : P < w.heap.size := (Array.getElem?_eq_some_iff.1 bP).1
  rw [← hWL]
  clear hWL
  have hsw : w.heap.size ≤ WL.heap.size := by omega
  refine wpIn_rangeFunc_ownG hro h1 (gf := 45) (lb := #[.pointer (some ⟨w.heap.size, 0, none⟩), .pointer (some ⟨w.heap.size + 1, 0, none⟩)]) rfl h45 (enters_of Try.func45 (by kernel_rfl) rfl)
    (chunk_stops F (n - 1) h45 hro (by omega) w.heap.size (w.heap.size + 1) A xs.length c hc hx WL (by omega) (by omega) cs1 cs2) KpC.t (KpC.b (w := WL)) (Below.refl _ _) (fun _ => rfl)
    (fun pre W => ∃ v, FlushI w WL P O base A c xs out vo (piecesO xs (pre.map (·.1))) W v)
    (fun _ _ _ => False)
    (fun s X Y row hs hg hr => by
      obtain ⟨v, hv⟩ := hs
      exact ⟨v, hv.grown hg hsw hr⟩)
    (fun _ _ _ _ _ hs _ _ => hs)
    ⟨vo, I0⟩
    (fun x => { tmps := #[.pointer (some ⟨P, 0, none⟩), .pointer (some ⟨O, 0, none⟩), pieceV A xs.length x.1, .slice A xs.length c, .func (.func 45) #[] #[.pointer (some ⟨w.heap.size, 0, none⟩), .pointer (some ⟨w.heap.size + 1, 0, none⟩)], pieceV A xs.length x.1, undef, undef, undef, undef, undef, undef, undef, undef, undef, undef], defers := [] }) ?assign ?body ?done ?stop
  case assign =>
    intro l x W K hK
    gi_wp2
    exact hK
  case body =>
    rintro l pre ⟨k, hk⟩ W ⟨v, hI⟩ hlt
    obtain ⟨A', p, v1, W2, v2, W3, hp, hp64, run1, run2, bO3, hI4, m4⟩ := flush_round (by have := piecesO_len xs (pre.map (·.1)); rw [List.length_map] at this; omega) hI hk hPO ne hltA hsw hb hx (by omega)
    obtain ⟨A2, n2, c2, rfl⟩ : ∃ A n c, v2 = Value.slice A n c := by
      obtain ⟨A2, c2, e⟩ := Kd.R_slice hI4.rO
      exact ⟨_, _, _, e⟩
    have hzO := hI.bO.cell
    have w1 : wrap64 ((p : Int) - 1) = (p : Int) - 1 := by unfold wrap64; omega
    have hzO3 := bO3.cell
    have hfO3 := bO3.frozen
    rw [hp]
    have HI := Aside0.mk hI
    have HI4 := Aside0.mk hI4
    have HM4 := Aside0.mk m4
    clear hI hI4 m4 hp I0 bP bO rP rO
    gi_wp2_with (first | (gi_at_builtin; refine wpListIn_append_known rfl _ _ 22 rfl rfl rfl run1 ?_) | (gi_at_builtin; refine wpListIn_append_known rfl _ _ 22 rfl rfl rfl run2 ?_))
    refine ⟨keepsFrom_mv HM4.out (fun i hi _ => ?_), ⟨fun u hu => HM4.out.cell hu (by have := HI.out.sz; omega) ?_, fun u hu => HM4.out.cell hu (by have := HI.out.sz; omega) ?_⟩, _, by rw [List.map_append, List.map_cons, List.map_nil, piecesO_snoc]; exact HI4.out⟩
    · rcases hi with rfl | hi
      · exact ⟨_, HI.out.bO, rfl⟩
      · obtain ⟨cs, hcs⟩ := Kd.R_typed HI.out.rO i hi.symm
        exact ⟨_, hcs, rfl⟩
    · rintro (e | e)
      · omega
      · rcases HI.out.at_ with q | ⟨b, q, hb2⟩
        · have := hltO _ (q ▸ e.symm)
          omega
        · rw [q] at e
          injection e with e
          omega
    · rintro (e | e)
      · omega
      · rcases HI.out.at_ with q | ⟨b, q, hb2⟩
        · have := hltO _ (q ▸ e.symm)
          omega
        · rw [q] at e
          injection e with e
          omega
  case done =>
    rintro D ys W hD hys ⟨v, hI⟩ hK
    have hzP2 := hI.bP.cell
    have hfP2 := hI.bP.frozen
    have hcut := cut_to 22 3 .i64 Try.underlying22 (info_parts info3).choose_spec.1 A xs.length c 0 (by decide) (by omega) hc
    gi_wp2
    rw [hys] at hI
    have hPD : P ≠ D := by omega
    have hOD : O ≠ D := by omega
    have mP : Mv (fun i => i = P) W (W.setCell ⟨P, 0, none⟩ (.slice A 0 c)) := Mv.of (grownBy_setCell' W P _) (fun i _ e => by injection e with e; exact e.symm)
    have hltD : D < W.heap.size := (Array.getElem?_eq_some_iff.1 hK).1
    have hK' : (W.setCell ⟨P, 0, none⟩ (.slice A 0 c)).heap[D]? = some (.deferred (some [])) := (mP.block D hltD hPD.symm).trans hK
    have hOP : some P ≠ v.ownBlock := Kd.R_ne hI.rO hI.bP not3
    have rP0 := Kd.R_take (m := 0) hI.rP (Nat.zero_le _)
    have hPP : some P ≠ (Value.slice A 0 c).ownBlock := Kd.R_ne rP0 hI.bP not3
    have rO5 := mP.row hI.rO (fun i hi e => hOP (by rw [hi, e]))
    have rP5 := mP.row rP0 (fun i hi e => hPP (by rw [← e]; exact hi.symm))
    have bO5 := mP.boxed hI.bO (fun e => hPO e.symm)
    have bP5 : Boxed (W.setCell ⟨P, 0, none⟩ (.slice A 0 c)) P 22 (.slice A 0 c) := hI.bP.set _
    refine ⟨by simp, .inl ⟨_, _, rfl, run_takeDeferred hK', ?_⟩⟩
    refine ⟨_, results_none rfl _ _ _, rfl, v, ?_⟩
    have nD : ∀ {B : Nat} {t : TypeId} {cs : Array Value}, (W.setCell ⟨P, 0, none⟩ (.slice A 0 c)).heap[B]? = some (.cells cs t (0, 0)) → ¬ B = D := fun {B t cs} hB e => by
      rw [e, hK'] at hB
      cases hB
    have mD : Mv (fun i => i = D) (W.setCell ⟨P, 0, none⟩ (.slice A 0 c)) ((W.setCell ⟨P, 0, none⟩ (.slice A 0 c)).putObj D (.deferred none)) := Mv.of (grownBy_putObj' _ D _) (fun i _ e => by injection e with e; exact e.symm)
    refine ⟨mD.boxed bO5 (nD bO5), mD.boxed bP5 (nD bP5), mD.row rP5 (fun i hi => ?_), mD.row rO5 (fun i hi => ?_), ?_, ?_⟩
    · obtain ⟨cs, hcs⟩ := Kd.R_typed rP5 i hi
      exact nD hcs
    · obtain ⟨cs, hcs⟩ := Kd.R_typed rO5 i hi
      exact nD hcs
    · rcases hI.at_ with q | ⟨b, q, hb2⟩
      · exact .inl q
      · exact .inr ⟨b, q, by omega⟩
    · exact (hI.mv.trans mP (U := fun i => i = P ∨ i = O ∨ some i = vo.ownBlock) (fun _ _ e => .inr e) (fun _ _ e => .inl e)).trans mD (fun _ _ e => e) (fun i hi e => by omega)
  case stop =>
    rintro D c pre W hD _ h
    exact h.elim
end Go.Proofs.Ytjbgbnngfbhmjaa.Pk
