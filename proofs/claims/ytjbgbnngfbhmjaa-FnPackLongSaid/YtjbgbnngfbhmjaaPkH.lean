import Derived.Test.YtjbgbnngfbhmjaaPkG
import Derived.WideKeyEntry
namespace Go.Proofs.Ytjbgbnngfbhmjaa.Pk
open Go.RowKit Go.Shelf Go.Proofs.YtjbgbnngfbhmjaaW.PrintWords Go.Proofs.YtjbgbnngfbhmjaaW.PrintLast Go.Proofs.YtjbgbnngfbhmjaaW.PrintMore
open Go.WideElems Go.MapKept Go.ChangeShapes Go.WideShapes Go.ChangeMaps
set_option linter.unusedVariables false
set_option linter.unusedSimpArgs false
/-- A map from three bytes to the places where they stand. -/
structure SeenC (W : World) (mb base : Nat) (f : Int × Int × Int → List Int) (es : Array MapEntry) (clock : Nat) : Prop where
  obj : W.heap[mb]? = some (.map es clock)
  key : ∀ e ∈ es.toList, ∃ a b c, isB a ∧ isB b ∧ isB c ∧ e.key = key3 a b c ∧ Kd.R (Kd.int .i64) 3 W base (fun _ => True) e.val (f (a, b, c))
  no : ∀ a b c, isB a → isB b → isB c → (∀ e ∈ es.toList, e.key ≠ key3 a b c) → f (a, b, c) = []
  born : ∀ e ∈ es.toList, e.born < clock
  nodup : (es.toList.map (·.born)).Nodup
  one : ∀ (i j : Nat) (e e' : MapEntry), es.toList[i]? = some e → es.toList[j]? = some e' → e.key = e'.key → i = j
  apart : ∀ (i j : Nat) (e e' : MapEntry), es.toList[i]? = some e → es.toList[j]? = some e' → i ≠ j → ∀ k, e.val.ownBlock = some k → e'.val.ownBlock ≠ some k
theorem zero22 (u : World) : (zeroValue 22).run Try.prog u = .ok (.slice none 0 0) u := by
  have hi : (Try.prog.info? 22).map (·.zero) = some (some (.slice none 0 0)) := by kernel_rfl
  obtain ⟨i, h1, h2⟩ := Option.map_eq_some_iff.1 hi
  simp [zeroValue, typeInfo, h1, h2, Result.andThen]
/-- The blocks of the map's rows. -/
def Bl (es : Array MapEntry) (k : Nat) : Prop := ∃ e ∈ es.toList, e.val.ownBlock = some k
theorem SeenC.keys {W : World} {mb base : Nat} {f : Int × Int × Int → List Int} {es : Array MapEntry} {clock : Nat} (h : SeenC W mb base f es clock) : ∀ e ∈ es.toList, ∃ l, keyOf Try.prog 46 e.key = some l := fun e he => by
  obtain ⟨a, b, c, ha, hb, hc, hk, _⟩ := h.key e he
  rw [hk]
  exact key3_of ha hb hc
/-- seen[key]. -/
theorem SeenC.lookup {W : World} {mb base : Nat} {f : Int × Int × Int → List Int} {es : Array MapEntry} {clock : Nat} (h : SeenC W mb base f es clock) {a b c : Int} (ha : isB a) (hb : isB b) (hc : isB c) :
    ∃ v, (∀ W' : World, W'.heap[mb]? = some (.map es clock) → (Instr.lookup 44 (.map (some mb)) (key3 a b c) false).run Try.prog W' = .ok v W') ∧ Kd.R (Kd.int .i64) 3 W base (fun _ => True) v (f (a, b, c)) := by
  obtain ⟨l, hl⟩ := key3_of ha hb hc
  rcases key46.find W hl es.toList h.keys with ⟨h1, h2⟩ | ⟨j, e0, h1, h2, h3⟩
  · refine ⟨.slice none 0 0, fun W' hW => ?_, ?_⟩
    · rcases key46.find W' hl es.toList h.keys with ⟨k1, k2⟩ | ⟨j', e0', k1, k2, k3⟩
      · simp [Instr.lookup, run_underlying Try.underlying44, MapKept.run_getObj_map hW, key46.check W' _ hl, k1, zero22, Result.andThen]
      · exact absurd k3 (h2 e0' (List.mem_of_getElem? k2))
    · rw [h.no a b c ha hb hc h2]
      exact Kd.R_nil _ _ _ _ _
  · refine ⟨e0.val, fun W' hW => ?_, ?_⟩
    · rcases key46.find W' hl es.toList h.keys with ⟨k1, k2⟩ | ⟨j', e0', k1, k2, k3⟩
      · exact absurd h3 (k2 e0 (List.mem_of_getElem? h2))
      · have hjj := h.one j' j e0' e0 k2 h2 (k3.trans h3.symm)
        subst hjj
        rw [h2] at k2
        cases k2
        simp [Instr.lookup, run_underlying Try.underlying44, MapKept.run_getObj_map hW, key46.check W' _ hl, k1, Result.andThen]
    · obtain ⟨a', b', c', _, _, _, hk, hr⟩ := h.key e0 (List.mem_of_getElem? h2)
      rw [h3, key3_inj] at hk
      obtain ⟨rfl, rfl, rfl⟩ := hk
      exact hr
theorem setBlock_at {W : World} {mb : Nat} {o o' : Obj} (h : W.heap[mb]? = some o) : (setBlock W mb o').heap[mb]? = some o' := by
  obtain ⟨hlt, _⟩ := Array.getElem?_eq_some_iff.1 h
  simp [setBlock, hlt]
theorem setBlock_grown (W : World) (mb : Nat) (o : Obj) : W.grownBy (setBlock W mb o) (some mb) := by
  refine ⟨rfl, rfl, rfl, by simp [setBlock], fun k hk hne => ?_⟩
  have : k ≠ mb := fun e => hne (by rw [e])
  simp [setBlock, Array.getElem?_setIfInBounds, this.symm]
theorem own_ne_map {W : World} {mb base : Nat} {es : Array MapEntry} {clock : Nat} {v : Value} {xs : List Int} (h : Kd.R (Kd.int .i64) 3 W base (fun _ => True) v xs) (hm : W.heap[mb]? = some (.map es clock)) : ∀ k, v.ownBlock = some k → ¬ k = mb := fun k hk e => by
  obtain ⟨cs, hcs⟩ := Kd.R_typed h k hk
  rw [e, hm] at hcs
  cases hcs
/-- The map's own object turned: the rows stand as they stood. -/
theorem SeenC.put {W : World} {mb base : Nat} {f : Int × Int × Int → List Int} {es : Array MapEntry} {clock : Nat} (h : SeenC W mb base f es clock) (es1 : Array MapEntry) (clock1 : Nat) {v : Value} {xs : List Int} (r : Kd.R (Kd.int .i64) 3 W base (fun _ => True) v xs) :
    Kd.R (Kd.int .i64) 3 (setBlock W mb (.map es1 clock1)) base (fun _ => True) v xs :=
  (Mv.of (S := fun i => i = mb) (setBlock_grown W mb _) (fun i _ e => by injection e with e; exact e.symm)).row r (own_ne_map r h.obj)
/-- The first half of seen[key] = append(seen[key], ..): the entry is there, with what it held. -/
theorem SeenC.entry {W : World} {mb base : Nat} {f : Int × Int × Int → List Int} {es : Array MapEntry} {clock : Nat} (h : SeenC W mb base f es clock) {a b c : Int} (ha : isB a) (hb : isB b) (hc : isB c) :
    ∃ (v0 : Value) (st : Nat) (es1 : Array MapEntry) (clock1 j : Nat), (Instr.mapEntry 44 (.map (some mb)) (key3 a b c)).run Try.prog W = .ok (.tuple #[v0, goInt st]) (setBlock W mb (.map es1 clock1)) ∧
      SeenC (setBlock W mb (.map es1 clock1)) mb base f es1 clock1 ∧ es1.toList[j]? = some ⟨key3 a b c, v0, st⟩ ∧ ∀ k, Bl es1 k → Bl es k := by
  obtain ⟨l, hl⟩ := key3_of ha hb hc
  rcases key46.find W hl es.toList h.keys with ⟨h1, h2⟩ | ⟨j, e0, h1, h2, h3⟩
  · refine ⟨.slice none 0 0, clock, es.push ⟨key3 a b c, .slice none 0 0, clock⟩, clock + 1, es.toList.length, ?_, ?_, by simp, fun k hk => ?_⟩
    · simp [Instr.mapEntry, run_underlying Try.underlying44, MapKept.run_getObj_map h.obj, key46.check W false hl, h1, zero22, MapKept.run_setObj_map _ h.obj, Result.andThen, setBlock]
    · have sp : ∀ {i : Nat} {e : MapEntry}, (es.push ⟨key3 a b c, .slice none 0 0, clock⟩).toList[i]? = some e → es.toList[i]? = some e ∨ (i = es.toList.length ∧ e = ⟨key3 a b c, .slice none 0 0, clock⟩) := fun {i e} hi => by
        rw [Array.toList_push, List.getElem?_append] at hi
        split at hi
        · exact .inl hi
        · rename_i hge
          have hh : i - es.toList.length = 0 := by
            rcases Nat.eq_zero_or_pos (i - es.toList.length) with q | q
            · exact q
            · rw [List.getElem?_eq_none (by simp only [List.length_cons, List.length_nil]; omega)] at hi
              cases hi
          rw [hh] at hi
          simp only [List.getElem?_cons_zero, Option.some.injEq] at hi
          exact .inr ⟨by omega, hi.symm⟩
      refine ⟨setBlock_at h.obj, ?_, ?_, ?_, ?_, ?_, ?_⟩
      · intro e he
        rw [Array.toList_push, List.mem_append, List.mem_singleton] at he
        rcases he with he | rfl
        · obtain ⟨a', b', c', q1, q2, q3, q4, q5⟩ := h.key e he
          exact ⟨a', b', c', q1, q2, q3, q4, h.put _ _ q5⟩
        · exact ⟨a, b, c, ha, hb, hc, rfl, by rw [h.no a b c ha hb hc h2]; exact Kd.R_nil _ _ _ _ _⟩
      · intro a' b' c' q1 q2 q3 q
        exact h.no a' b' c' q1 q2 q3 (fun e he => q e (by rw [Array.toList_push]; exact List.mem_append_left _ he))
      · intro e he
        rw [Array.toList_push, List.mem_append, List.mem_singleton] at he
        rcases he with he | rfl
        · have := h.born e he
          omega
        · exact Nat.lt_succ_self _
      · rw [Array.toList_push, List.map_append, List.map_cons, List.map_nil]
        refine List.nodup_append.2 ⟨h.nodup, by simp, fun x hx y hy e1 => ?_⟩
        simp only [List.mem_singleton] at hy
        obtain ⟨e, he, rfl⟩ := List.mem_map.1 hx
        have := h.born e he
        omega
      · intro i j e e' hi hj hk
        rcases sp hi with hi | ⟨hi, rfl⟩
        · rcases sp hj with hj | ⟨hj, rfl⟩
          · exact h.one i j e e' hi hj hk
          · exact absurd hk (h2 e (List.mem_of_getElem? hi))
        · rcases sp hj with hj | ⟨hj, rfl⟩
          · exact absurd hk.symm (h2 e' (List.mem_of_getElem? hj))
          · omega
      · intro i j e e' hi hj hne k hk
        rcases sp hi with hi | ⟨hi, rfl⟩
        · rcases sp hj with hj | ⟨hj, rfl⟩
          · exact h.apart i j e e' hi hj hne k hk
          · intro q
            cases q
        · cases hk
    · obtain ⟨e, he, hb⟩ := hk
      rw [Array.toList_push, List.mem_append, List.mem_singleton] at he
      rcases he with he | rfl
      · exact ⟨e, he, hb⟩
      · cases hb
  · have hj : es[j]? = some e0 := by simpa using h2
    have hsame : es.modify j (fun e => { e with key := key3 a b c }) = es := by
      apply Array.ext'
      rw [Array.toList_modify, modify_eq_set _ _ _ _ h2]
      have : ({ e0 with key := key3 a b c } : MapEntry) = e0 := by rw [← h3]
      rw [this]
      exact set_self _ _ _ h2
    refine ⟨e0.val, e0.born, es, clock, j, ?_, ⟨setBlock_at h.obj, ?_, h.no, h.born, h.nodup, h.one, h.apart⟩, by rw [h2, ← h3], fun k hk => hk⟩
    · simp [Instr.mapEntry, run_underlying Try.underlying44, MapKept.run_getObj_map h.obj, key46.check W false hl, h1, hj, h3, key46.stays W hl, hsame, MapKept.run_setObj_map _ h.obj, Result.andThen, setBlock]
    · intro e he
      obtain ⟨a', b', c', q1, q2, q3, q4, q5⟩ := h.key e he
      exact ⟨a', b', c', q1, q2, q3, q4, h.put _ _ q5⟩
/-- The second half: the row that was appended to is stored. -/
theorem SeenC.store {W1 W2 : World} {mb base : Nat} {f : Int × Int × Int → List Int} {es : Array MapEntry} {clock : Nat} (h : SeenC W1 mb base f es clock) {a b c : Int} {v0 v1 : Value} {st j : Nat}
    (hj : es.toList[j]? = some ⟨key3 a b c, v0, st⟩) (x : Int) (hm : Mv (fun i => some i = v0.ownBlock) W1 W2) (r1 : Kd.R (Kd.int .i64) 3 W2 base (fun _ => True) v1 (f (a, b, c) ++ [x]))
    (hat : v1.ownBlock = v0.ownBlock ∨ ∃ b, v1.ownBlock = some b ∧ W1.heap.size ≤ b) :
    ∃ es', (Instr.entryStore 44 (.map (some mb)) (goInt st) v1).run Try.prog W2 = .ok () (setBlock W2 mb (.map es' clock)) ∧
      SeenC (setBlock W2 mb (.map es' clock)) mb base (fun q => if q = (a, b, c) then f q ++ [x] else f q) es' clock ∧ (∀ k, Bl es' k → Bl es k ∨ W1.heap.size ≤ k) ∧ some mb ≠ v0.ownBlock := by
  have hmem := List.mem_of_getElem? hj
  obtain ⟨a', b', c', ha, hb, hc, hk, r0⟩ := h.key _ hmem
  have hk' : key3 a b c = key3 a' b' c' := hk
  rw [key3_inj] at hk'
  obtain ⟨rfl, rfl, rfl⟩ := hk'
  have r0' : Kd.R (Kd.int .i64) 3 W1 base (fun _ => True) v0 (f (a, b, c)) := r0
  have hmb : some mb ≠ v0.ownBlock := fun e => own_ne_map r0' h.obj mb e.symm rfl
  have hob : W2.heap[mb]? = some (.map es clock) := (hm.block mb (Array.getElem?_eq_some_iff.1 h.obj).1 hmb).trans h.obj
  have hidx : es.findIdx? (fun e => ((e.born : Nat) : Int) == ((st : Nat) : Int)) = some j := by
    rw [findIdx_arr]
    exact findIdx_born h.nodup (e0 := ⟨key3 a b c, v0, st⟩) hj
  have hl : (es.modify j (fun e => { e with val := v1 })).toList = es.toList.set j ⟨key3 a b c, v1, st⟩ := by
    rw [Array.toList_modify, modify_eq_set _ _ _ _ hj]
  have hjlt : j < es.toList.length := (List.getElem?_eq_some_iff.1 hj).1
  have sp : ∀ {i : Nat} {e : MapEntry}, (es.toList.set j ⟨key3 a b c, v1, st⟩)[i]? = some e → (i ≠ j ∧ es.toList[i]? = some e) ∨ (i = j ∧ e = ⟨key3 a b c, v1, st⟩) := fun {i e} hi => by
    by_cases q : j = i
    · subst q
      rw [List.getElem?_set_self hjlt] at hi
      exact .inr ⟨rfl, by injection hi with hi; exact hi.symm⟩
    · rw [List.getElem?_set_ne q] at hi
      exact .inl ⟨fun e => q e.symm, hi⟩
  have mB : Mv (fun i => i = mb) W2 (setBlock W2 mb (.map (es.modify j (fun e => { e with val := v1 })) clock)) := Mv.of (setBlock_grown W2 mb _) (fun i _ e => by injection e with e; exact e.symm)
  have m12 : Mv (fun i => i = mb ∨ some i = v0.ownBlock) W1 (setBlock W2 mb (.map (es.modify j (fun e => { e with val := v1 })) clock)) := hm.trans mB (fun _ _ e => .inr e) (fun _ _ e => .inl e)
  have r1' := mB.row r1 (own_ne_map r1 hob)
  have old : ∀ (i : Nat) (e : MapEntry), i ≠ j → es.toList[i]? = some e → ∀ xs, Kd.R (Kd.int .i64) 3 W1 base (fun _ => True) e.val xs → Kd.R (Kd.int .i64) 3 (setBlock W2 mb (.map (es.modify j (fun e => { e with val := v1 })) clock)) base (fun _ => True) e.val xs := fun i e hne hi xs r =>
    m12.row r (fun k hk q => by
      rcases q with q | q
      · exact own_ne_map r h.obj k hk q
      · exact h.apart j i _ e hj hi (fun e => hne e.symm) k q.symm hk)
  refine ⟨es.modify j (fun e => { e with val := v1 }), ?_, ⟨setBlock_at hob, ?_, ?_, ?_, ?_, ?_, ?_⟩, ?_, hmb⟩
  · simp [Instr.entryStore, MapKept.run_getObj_map hob, asInt, asIntOf, goInt, hidx, MapKept.run_setObj_map _ hob, Result.andThen, setBlock]
  · intro e he
    rw [hl] at he
    obtain ⟨i, hi⟩ := List.mem_iff_getElem?.1 he
    rcases sp hi with ⟨hne, hi⟩ | ⟨_, rfl⟩
    · obtain ⟨a', b', c', q1, q2, q3, q4, q5⟩ := h.key e (List.mem_of_getElem? hi)
      refine ⟨a', b', c', q1, q2, q3, q4, ?_⟩
      rw [if_neg (fun q => hne (h.one i j e _ hi hj (by rw [q4]; simp only [Prod.mk.injEq] at q; obtain ⟨rfl, rfl, rfl⟩ := q; rfl)))]
      exact old i e hne hi _ q5
    · refine ⟨a, b, c, ha, hb, hc, rfl, ?_⟩
      (try dsimp only)
      rw [if_pos rfl]
      exact r1'
  · intro a' b' c' q1 q2 q3 q
    have hne : (a', b', c') ≠ (a, b, c) := fun e => by
      simp only [Prod.mk.injEq] at e
      obtain ⟨rfl, rfl, rfl⟩ := e
      exact q ⟨key3 a' b' c', v1, st⟩ (by rw [hl]; exact List.mem_iff_getElem?.2 ⟨j, List.getElem?_set_self hjlt⟩) rfl
    rw [if_neg hne]
    refine h.no a' b' c' q1 q2 q3 (fun e he => ?_)
    obtain ⟨i, hi⟩ := List.mem_iff_getElem?.1 he
    by_cases hij : j = i
    · subst hij
      rw [hj] at hi
      cases hi
      intro hk
      have hk2 : key3 a b c = key3 a' b' c' := hk
      rw [key3_inj] at hk2
      obtain ⟨rfl, rfl, rfl⟩ := hk2
      exact hne rfl
    · exact q e (by rw [hl]; exact List.mem_iff_getElem?.2 ⟨i, by rw [List.getElem?_set_ne hij]; exact hi⟩)
  · intro e he
    rw [hl] at he
    obtain ⟨i, hi⟩ := List.mem_iff_getElem?.1 he
    rcases sp hi with ⟨_, hi⟩ | ⟨_, rfl⟩
    · exact h.born e (List.mem_of_getElem? hi)
    · exact h.born ⟨key3 a b c, v0, st⟩ hmem
  · rw [hl, List.map_set]
    have e1 : (es.toList.map (·.born)).set j st = es.toList.map (·.born) := set_self _ _ _ (by rw [List.getElem?_map, hj]; rfl)
    show ((es.toList.map (·.born)).set j st).Nodup
    rw [e1]
    exact h.nodup
  · intro i i' e e' hi hi' hk
    rw [hl] at hi hi'
    rcases sp hi with ⟨n1, hi⟩ | ⟨n1, rfl⟩
    · rcases sp hi' with ⟨n2, hi'⟩ | ⟨n2, rfl⟩
      · exact h.one i i' e e' hi hi' hk
      · exact (h.one i j e _ hi hj hk).trans n2.symm
    · rcases sp hi' with ⟨n2, hi'⟩ | ⟨n2, rfl⟩
      · exact n1.trans (h.one j i' _ e' hj hi' hk)
      · exact n1.trans n2.symm
  · intro i i' e e' hi hi' hne k hk
    rw [hl] at hi hi'
    have lt' : ∀ (i : Nat) (e : MapEntry), es.toList[i]? = some e → ∀ k, e.val.ownBlock = some k → k < W1.heap.size := fun i e hi k hk => by
      obtain ⟨_, _, _, _, _, _, _, q5⟩ := h.key e (List.mem_of_getElem? hi)
      exact Kd.R_lt q5 k hk
    rcases sp hi with ⟨n1, hi⟩ | ⟨n1, rfl⟩
    · rcases sp hi' with ⟨n2, hi'⟩ | ⟨n2, rfl⟩
      · exact h.apart i i' e e' hi hi' hne k hk
      · rcases hat with q | ⟨b2, q, hb2⟩
        · intro q2
          have q3 : v1.ownBlock = some k := q2
          rw [q] at q3
          exact h.apart i j e _ hi hj n1 k hk q3
        · intro q2
          have q3 : v1.ownBlock = some k := q2
          rw [q] at q3
          injection q3 with q3
          have := lt' i e hi k hk
          omega
    · have hk3 : v1.ownBlock = some k := hk
      rcases sp hi' with ⟨n2, hi'⟩ | ⟨n2, rfl⟩
      · rcases hat with q | ⟨b2, q, hb2⟩
        · rw [q] at hk3
          exact h.apart j i' _ e' hj hi' (fun e => n2 e.symm) k hk3
        · rw [q] at hk3
          injection hk3 with hk3
          intro q2
          have := lt' i' e' hi' k q2
          omega
      · exact absurd (n1.trans n2.symm) hne
  · intro k ⟨e, he, hk⟩
    rw [hl] at he
    obtain ⟨i, hi⟩ := List.mem_iff_getElem?.1 he
    rcases sp hi with ⟨_, hi⟩ | ⟨_, rfl⟩
    · exact .inl ⟨e, List.mem_of_getElem? hi, hk⟩
    · have hk3 : v1.ownBlock = some k := hk
      rcases hat with q | ⟨b2, q, hb2⟩
      · rw [q] at hk3
        exact .inl ⟨_, hmem, hk3⟩
      · rw [q] at hk3
        injection hk3 with hk3
        exact .inr (by omega)
end Go.Proofs.Ytjbgbnngfbhmjaa.Pk
