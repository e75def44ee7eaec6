-- Written by this session (the walk of the law, by hand).
import Derived.Test.YtmpnedpokdaejaaQFnExactOldTurnx0
import Derived.Test.YtmpnedpokdaejaaQFnExactOldTurnx1
import Derived.Test.YtmpnedpokdaejaaQFnExactOldTurnx2
import Derived.Test.YtmpnedpokdaejaaQFnExactOldTurnx3
import Derived.Test.YtmpnedpokdaejaaQFnExactOldTurnx4
import Derived.Test.YtmpnedpokdaejaaQFnExactOldTurnx5
import Derived.Test.YtmpnedpokdaejaaQFnExactOldTurnx6
import Derived.Test.YtmpnedpokdaejaaQFnExactOldTurnx7
import Derived.Test.YtmpnedpokdaejaaQFnExactOldTurnx8
import Derived.Test.YtmpnedpokdaejaaQFnExactOldTurnx9
import Derived.Test.YtmpnedpokdaejaaQFnExactOldTurnx10
import Derived.Test.YtmpnedpokdaejaaQFnExactOldTurnx11
namespace Go.Proofs.Ytmpnedpokdaejaa.QFnExactOldTurn
open Go.RowKit Go.Proofs.YtmpnedpokdaejaaW.PrintWords Go.Proofs.YtmpnedpokdaejaaW.PrintLast Go.Proofs.YtmpnedpokdaejaaW.PrintMore
set_option linter.unusedVariables false
set_option linter.unusedSimpArgs false


/-! ### the three marking functions (regions outside the print's forms), by hand -/
section
variable {α : Type} {d : Kd α} {e base g n cap : Nat} {ok oki : Nat → Prop} {W w1 : World} {xs : List α} {i : Nat} {c : List Value} {v : Value}
theorem h_cells (h : Kd.H d e W base ok (.slice (some ⟨g, 0, none⟩) n cap) xs (i : Int) oki c) (h1 : i < n) : (∀ j u, c[j]? = some u → W.cell? ⟨g, i * d.sz + j, none⟩ = some u) ∧ ∀ j, W.frozen? ⟨g, j, none⟩ = false := by
  obtain ⟨rows, _, hraw, _, _, hcc, _⟩ := Kd.H_raw h (by omega) (by omega)
  obtain ⟨cells, hc⟩ := Kd.R_typed hraw g rfl
  exact ⟨hcc, fun j => blk_frozen hc _⟩
theorem h_put (h : Kd.H d e W base ok (.slice (some ⟨g, 0, none⟩) n cap) xs (i : Int) oki c) (h1 : i < n) (j : Nat) (u : Value) (hj : j < d.sz) (hu : u.oneCell' = true) : Kd.H d e (W.setCell ⟨g, i * d.sz + j, none⟩ u) base ok (.slice (some ⟨g, 0, none⟩) n cap) xs (i : Int) oki (c.take j ++ [u] ++ c.drop (j + 1)) ∧ W.grownBy (W.setCell ⟨g, i * d.sz + j, none⟩ u) (some g) :=
  Kd.H_seg h (by omega) (by omega) (seg := [u]) (j := j) hj (fun q hq => by rw [List.mem_singleton.1 hq]; exact hu)
theorem h_kept {P : Nat → Prop} (h : Kd.H d e W base ok v xs (i : Int) oki c) (hk : Kept W w1 P) (hP : ∀ k, P k → oki k) : Kd.H d e w1 base ok v xs (i : Int) oki c := by
  obtain ⟨h0, f, hR⟩ := h
  exact ⟨h0, f, Kd.R_step hR (fun k hk' hlt => hk.2 k hlt (fun hp => hk'.2 (hP k hp)))⟩
end
def mk : List Int → Int → List Int
 | [], _ => []
 | _ :: r, a => a :: mk r (a + 1)
def b3 (k : Int) : Bool := Int.tmod k 3 == 0
/-- The int marks answer, for lists up to N. -/
def MarksOk (kk N : Nat) : Prop := ∀ (l : List Int) (a : Int), l.length ≤ N → 0 ≤ a → a + (l.length : Int) ≤ 4611686018427387904 → laws_markIntS.f kk l a = some (a + (l.length : Int), mk l a)
structure E57 (w0 ws : World) (g n cap : Nat) (ok : Nat → Prop) (ys : List S57) (i : Nat) (v3 v5 : Value) (X : S57) (w : World) : Prop where
  ex : ∃ oki, Kd.H k57s 57 w w0.heap.size ok (.slice (some ⟨g, 0, none⟩) n cap) ys (i : Int) oki [.int .i64 X.f0, .int .i64 X.f1, .bool X.f2, v3, .bool X.f4, v5] ∧ (∀ k, some k = v3.ownBlock → oki k) ∧ (∀ k, some k = v5.ownBlock → oki k) ∧ (∀ k, oki k → k ≠ g)
  ra : (Kd.int .i64).R 3 w w0.heap.size (fun k => some k = v3.ownBlock) v3 X.f3
  rb : (Kd.int .i64).R 3 w w0.heap.size (fun k => some k = v5.ownBlock) v5 X.f5
  ap : ∀ k, some k = v3.ownBlock → some k ≠ v5.ownBlock
  lt : i < n
  okg : ok g ∧ w0.heap.size ≤ g
  kp : Kept ws w ok
  bl : Below w0.heap.size w0 w
section
variable {w0 ws w w1 : World} {g n cap : Nat} {ok : Nat → Prop} {ys : List S57} {i : Nat} {v3 v5 : Value} {X : S57}
theorem e57_open (hS : Kd.S k57s 57 w w0.heap.size ok (.slice (some ⟨g, 0, none⟩) n cap) ys) (hi : i < n) (hg : w0.heap.size ≤ g) (hk : Kept ws w ok) (hb : Below w0.heap.size w0 w) : ∃ v3 v5, E57 w0 ws g n cap ok ys i v3 v5 (ys.getD i z57) w := by
  have okg : ok g := (Kd.S_R hS).1 g rfl
  obtain ⟨oki, c, hcl, hM, hcc, hfr, hoki, hH⟩ := Kd.S_elem hS z57 (i : Int) (by omega) (by omega)
  have hap := hM.2
  obtain ⟨v3, v5, rfl, ga, gb⟩ := k57_openM (k57s_of hM)
  exact ⟨v3, v5, ⟨⟨oki, hH, fun k hk => ga.1 k hk.symm, fun k hk => gb.1 k hk.symm, fun k hk => (hoki k hk).2⟩, Kd.R_tight rfl ga, Kd.R_tight rfl gb, fun k h3 h5 => hap k h3.symm h5.symm, hi, ⟨okg, hg⟩, hk, hb⟩⟩
theorem e57_cells (E : E57 w0 ws g n cap ok ys i v3 v5 X w) : w.cell? ⟨g, i * 6, none⟩ = some (.int .i64 X.f0) ∧ w.cell? ⟨g, i * 6 + 1, none⟩ = some (.int .i64 X.f1) ∧ w.cell? ⟨g, i * 6 + 2, none⟩ = some (.bool X.f2) ∧ w.cell? ⟨g, i * 6 + 3, none⟩ = some (v3) ∧ w.cell? ⟨g, i * 6 + 4, none⟩ = some (.bool X.f4) ∧ w.cell? ⟨g, i * 6 + 5, none⟩ = some (v5) ∧ ∀ j, w.frozen? ⟨g, j, none⟩ = false := by
  obtain ⟨oki, hH, _⟩ := E.ex
  obtain ⟨hc, hf⟩ := h_cells hH E.lt
  exact ⟨hc 0 _ rfl, hc 1 _ rfl, hc 2 _ rfl, hc 3 _ rfl, hc 4 _ rfl, hc 5 _ rfl, hf⟩
theorem e57_put0 (E : E57 w0 ws g n cap ok ys i v3 v5 X w) (u : Int) : E57 w0 ws g n cap ok ys i v3 v5 { X with f0 := u } (w.setCell ⟨g, i * 6, none⟩ (.int .i64 u)) := by
  obtain ⟨oki, hH, ha, hb, hg⟩ := E.ex
  obtain ⟨hH2, hgr⟩ := h_put hH E.lt 0 (.int .i64 u) (by decide) rfl
  exact ⟨⟨oki, hH2, ha, hb, hg⟩, Kd.R_far E.ra (p := ⟨g, _, none⟩) (fun k hk => hg k (ha k hk)) _, Kd.R_far E.rb (p := ⟨g, _, none⟩) (fun k hk => hg k (hb k hk)) _, E.ap, E.lt, E.okg, Kept.setCell E.kp (p := ⟨g, _, none⟩) (.inl E.okg.1) _, below_set E.bl E.okg.2⟩
theorem e57_put1 (E : E57 w0 ws g n cap ok ys i v3 v5 X w) (u : Int) : E57 w0 ws g n cap ok ys i v3 v5 { X with f1 := u } (w.setCell ⟨g, i * 6 + 1, none⟩ (.int .i64 u)) := by
  obtain ⟨oki, hH, ha, hb, hg⟩ := E.ex
  obtain ⟨hH2, hgr⟩ := h_put hH E.lt 1 (.int .i64 u) (by decide) rfl
  exact ⟨⟨oki, hH2, ha, hb, hg⟩, Kd.R_far E.ra (p := ⟨g, _, none⟩) (fun k hk => hg k (ha k hk)) _, Kd.R_far E.rb (p := ⟨g, _, none⟩) (fun k hk => hg k (hb k hk)) _, E.ap, E.lt, E.okg, Kept.setCell E.kp (p := ⟨g, _, none⟩) (.inl E.okg.1) _, below_set E.bl E.okg.2⟩
theorem e57_put2 (E : E57 w0 ws g n cap ok ys i v3 v5 X w) (u : Bool) : E57 w0 ws g n cap ok ys i v3 v5 { X with f2 := u } (w.setCell ⟨g, i * 6 + 2, none⟩ (.bool u)) := by
  obtain ⟨oki, hH, ha, hb, hg⟩ := E.ex
  obtain ⟨hH2, hgr⟩ := h_put hH E.lt 2 (.bool u) (by decide) rfl
  exact ⟨⟨oki, hH2, ha, hb, hg⟩, Kd.R_far E.ra (p := ⟨g, _, none⟩) (fun k hk => hg k (ha k hk)) _, Kd.R_far E.rb (p := ⟨g, _, none⟩) (fun k hk => hg k (hb k hk)) _, E.ap, E.lt, E.okg, Kept.setCell E.kp (p := ⟨g, _, none⟩) (.inl E.okg.1) _, below_set E.bl E.okg.2⟩
theorem e57_put4 (E : E57 w0 ws g n cap ok ys i v3 v5 X w) (u : Bool) : E57 w0 ws g n cap ok ys i v3 v5 { X with f4 := u } (w.setCell ⟨g, i * 6 + 4, none⟩ (.bool u)) := by
  obtain ⟨oki, hH, ha, hb, hg⟩ := E.ex
  obtain ⟨hH2, hgr⟩ := h_put hH E.lt 4 (.bool u) (by decide) rfl
  exact ⟨⟨oki, hH2, ha, hb, hg⟩, Kd.R_far E.ra (p := ⟨g, _, none⟩) (fun k hk => hg k (ha k hk)) _, Kd.R_far E.rb (p := ⟨g, _, none⟩) (fun k hk => hg k (hb k hk)) _, E.ap, E.lt, E.okg, Kept.setCell E.kp (p := ⟨g, _, none⟩) (.inl E.okg.1) _, below_set E.bl E.okg.2⟩
theorem e57_mark3 (E : E57 w0 ws g n cap ok ys i v3 v5 X w) {r : List Int} {okr : Nat → Prop} (hr : (Kd.int .i64).R 3 w1 w0.heap.size okr v3 r) (hb1 : Below w0.heap.size w0 w1) (hkp : Kept w w1 (fun k => some k = v3.ownBlock)) : E57 w0 ws g n cap ok ys i v3 v5 { X with f3 := r } w1 := by
  obtain ⟨oki, hH, ha, hb, hg⟩ := E.ex
  exact ⟨⟨oki, h_kept hH hkp ha, ha, hb, hg⟩, Kd.R_tight rfl hr, Kd.R_step E.rb (fun k hk hlt => hkp.2 k hlt (fun h => E.ap k h hk)), E.ap, E.lt, E.okg, Kept.then_ E.kp hkp (fun k hk => .inl (hH.1 k (ha k hk))), hb1⟩
theorem e57_mark5 (E : E57 w0 ws g n cap ok ys i v3 v5 X w) {r : List Int} {okr : Nat → Prop} (hr : (Kd.int .i64).R 3 w1 w0.heap.size okr v5 r) (hb1 : Below w0.heap.size w0 w1) (hkp : Kept w w1 (fun k => some k = v5.ownBlock)) : E57 w0 ws g n cap ok ys i v3 v5 { X with f5 := r } w1 := by
  obtain ⟨oki, hH, ha, hb, hg⟩ := E.ex
  exact ⟨⟨oki, h_kept hH hkp hb, ha, hb, hg⟩, Kd.R_step E.ra (fun k hk hlt => hkp.2 k hlt (fun h => E.ap k hk h)), Kd.R_tight rfl hr, E.ap, E.lt, E.okg, Kept.then_ E.kp hkp (fun k hk => .inl (hH.1 k (hb k hk))), hb1⟩
theorem e57_close (E : E57 w0 ws g n cap ok ys i v3 v5 X w) : Kd.S k57s 57 w w0.heap.size ok (.slice (some ⟨g, 0, none⟩) n cap) (ys.set i X) := by
  obtain ⟨oki, hH, ha, hb, hg⟩ := E.ex
  exact Kd.H_back hH (k57s_mk (k57_mkM w w0.heap.size oki X (Kd.R_mono E.ra ha) (Kd.R_mono E.rb hb)) (fun k h3 h5 => E.ap k h3.symm h5.symm)) (fun _ h => h)
end
def mkER (x : S57) (k : Int) : S57 := ⟨k, k + 1, b3 (k + 1 + 1), mk x.f3 (k + 1 + 1 + 1), b3 (k + 1 + 1 + 1 + (x.f3.length : Int)), mk x.f5 (k + 1 + 1 + 1 + (x.f3.length : Int) + 1)⟩
def lenR (x : S57) : Int := 4 + (x.f3.length : Int) + (x.f5.length : Int)
def mkLR : List S57 → Int → List S57
 | [], _ => []
 | x :: r, k => mkER x k :: mkLR r (k + lenR x)
def totR (xs : List S57) : Int := (xs.map lenR).sum
theorem lenR_pos (x : S57) : 1 ≤ lenR x := by unfold lenR; omega
theorem mkLR_len (xs : List S57) : ∀ k, (mkLR xs k).length = xs.length := by
  induction xs with
  | nil => intro k; rfl
  | cons x r ih => intro k; simp [mkLR, ih]
theorem mkLR_app (x : S57) (xs : List S57) : ∀ k, mkLR (xs ++ [x]) k = mkLR xs k ++ [mkER x (k + totR xs)] := by
  induction xs with
  | nil => intro k; simp [mkLR, totR]
  | cons y r ih => intro k; simp only [List.cons_append, mkLR, ih, totR, List.map_cons, List.sum_cons, Int.add_assoc]
theorem totR_app (x : S57) (xs : List S57) : totR (xs ++ [x]) = totR xs + lenR x := by simp [totR]
theorem totR_len (xs : List S57) : (xs.length : Int) ≤ totR xs := by
  induction xs with
  | nil => simp [totR]
  | cons y r ih => have := lenR_pos y; simp only [totR, List.map_cons, List.sum_cons, List.length_cons] at ih ⊢; omega
theorem totR_take (xs : List S57) (i : Nat) (h : i < xs.length) : totR (xs.take (i + 1)) = totR (xs.take i) + lenR (xs.getD i z57) ∧ totR (xs.take (i + 1)) ≤ totR xs ∧ 0 ≤ totR (xs.take i) := by
  have e : xs.take (i + 1) = xs.take i ++ [xs.getD i z57] := by rw [List.take_succ_eq_append_getElem h, List.getD_eq_getElem?_getD, List.getElem?_eq_getElem h]; rfl
  refine ⟨by rw [e, totR_app], ?_, ?_⟩
  · have h2 : totR xs = totR (xs.take (i + 1)) + totR (xs.drop (i + 1)) := by
      conv => lhs; rw [← List.take_append_drop (i + 1) xs]
      simp only [totR, List.map_append, List.sum_append]
    have h3 := totR_len (xs.drop (i + 1))
    omega
  · have h3 := totR_len (xs.take i); omega
theorem mkR_get (xs : List S57) (k : Int) (i : Nat) (h : i < xs.length) : (mkLR (xs.take i) k ++ xs.drop i).getD i z57 = xs.getD i z57 := by
  have hl : (mkLR (xs.take i) k).length = i := by rw [mkLR_len, List.length_take]; omega
  rw [List.getD_eq_getElem?_getD, List.getElem?_append_right (by omega), hl, List.getElem?_drop, Nat.sub_self, Nat.add_zero, ← List.getD_eq_getElem?_getD]
theorem mkR_set (xs : List S57) (k : Int) (i : Nat) (h : i < xs.length) : (mkLR (xs.take i) k ++ xs.drop i).set i (mkER (xs.getD i z57) (k + totR (xs.take i))) = mkLR (xs.take (i + 1)) k ++ xs.drop (i + 1) := by
  have hl : (mkLR (xs.take i) k).length = i := by rw [mkLR_len, List.length_take]; omega
  have e : xs.take (i + 1) = xs.take i ++ [xs.getD i z57] := by rw [List.take_succ_eq_append_getElem h, List.getD_eq_getElem?_getD, List.getElem?_eq_getElem h]; rfl
  rw [e, mkLR_app, List.set_append_right _ _ (by omega), hl, Nat.sub_self, List.drop_eq_getElem_cons h, List.set_cons_zero, List.append_assoc]
  rfl
structure E26 (w0 ws : World) (g n cap : Nat) (ok : Nat → Prop) (ys : List S26) (i : Nat) (v3 v4 : Value) (X : S26) (w : World) : Prop where
  ex : ∃ oki, Kd.H k26s 26 w w0.heap.size ok (.slice (some ⟨g, 0, none⟩) n cap) ys (i : Int) oki [.int .i64 X.f0, .bool X.f1, .int .i64 X.f2, v3, v4, .bool X.f5, .bool X.f6] ∧ (∀ k, some k = v3.ownBlock → oki k) ∧ (∀ k, some k = v4.ownBlock → oki k) ∧ (∀ k, oki k → k ≠ g)
  ra : (Kd.int .i64).R 3 w w0.heap.size (fun k => some k = v3.ownBlock) v3 X.f3
  rb : (Kd.int .i64).R 3 w w0.heap.size (fun k => some k = v4.ownBlock) v4 X.f4
  ap : ∀ k, some k = v3.ownBlock → some k ≠ v4.ownBlock
  lt : i < n
  okg : ok g ∧ w0.heap.size ≤ g
  kp : Kept ws w ok
  bl : Below w0.heap.size w0 w
section
variable {w0 ws w w1 : World} {g n cap : Nat} {ok : Nat → Prop} {ys : List S26} {i : Nat} {v3 v4 : Value} {X : S26}
theorem e26_open (hS : Kd.S k26s 26 w w0.heap.size ok (.slice (some ⟨g, 0, none⟩) n cap) ys) (hi : i < n) (hg : w0.heap.size ≤ g) (hk : Kept ws w ok) (hb : Below w0.heap.size w0 w) : ∃ v3 v4, E26 w0 ws g n cap ok ys i v3 v4 (ys.getD i z26) w := by
  have okg : ok g := (Kd.S_R hS).1 g rfl
  obtain ⟨oki, c, hcl, hM, hcc, hfr, hoki, hH⟩ := Kd.S_elem hS z26 (i : Int) (by omega) (by omega)
  have hap := hM.2
  obtain ⟨v3, v4, rfl, ga, gb⟩ := k26_openM (k26s_of hM)
  exact ⟨v3, v4, ⟨⟨oki, hH, fun k hk => ga.1 k hk.symm, fun k hk => gb.1 k hk.symm, fun k hk => (hoki k hk).2⟩, Kd.R_tight rfl ga, Kd.R_tight rfl gb, fun k h3 h5 => hap k h3.symm h5.symm, hi, ⟨okg, hg⟩, hk, hb⟩⟩
theorem e26_cells (E : E26 w0 ws g n cap ok ys i v3 v4 X w) : w.cell? ⟨g, i * 7, none⟩ = some (.int .i64 X.f0) ∧ w.cell? ⟨g, i * 7 + 1, none⟩ = some (.bool X.f1) ∧ w.cell? ⟨g, i * 7 + 2, none⟩ = some (.int .i64 X.f2) ∧ w.cell? ⟨g, i * 7 + 3, none⟩ = some (v3) ∧ w.cell? ⟨g, i * 7 + 4, none⟩ = some (v4) ∧ w.cell? ⟨g, i * 7 + 5, none⟩ = some (.bool X.f5) ∧ w.cell? ⟨g, i * 7 + 6, none⟩ = some (.bool X.f6) ∧ ∀ j, w.frozen? ⟨g, j, none⟩ = false := by
  obtain ⟨oki, hH, _⟩ := E.ex
  obtain ⟨hc, hf⟩ := h_cells hH E.lt
  exact ⟨hc 0 _ rfl, hc 1 _ rfl, hc 2 _ rfl, hc 3 _ rfl, hc 4 _ rfl, hc 5 _ rfl, hc 6 _ rfl, hf⟩
theorem e26_put0 (E : E26 w0 ws g n cap ok ys i v3 v4 X w) (u : Int) : E26 w0 ws g n cap ok ys i v3 v4 { X with f0 := u } (w.setCell ⟨g, i * 7, none⟩ (.int .i64 u)) := by
  obtain ⟨oki, hH, ha, hb, hg⟩ := E.ex
  obtain ⟨hH2, hgr⟩ := h_put hH E.lt 0 (.int .i64 u) (by decide) rfl
  exact ⟨⟨oki, hH2, ha, hb, hg⟩, Kd.R_far E.ra (p := ⟨g, _, none⟩) (fun k hk => hg k (ha k hk)) _, Kd.R_far E.rb (p := ⟨g, _, none⟩) (fun k hk => hg k (hb k hk)) _, E.ap, E.lt, E.okg, Kept.setCell E.kp (p := ⟨g, _, none⟩) (.inl E.okg.1) _, below_set E.bl E.okg.2⟩
theorem e26_put1 (E : E26 w0 ws g n cap ok ys i v3 v4 X w) (u : Bool) : E26 w0 ws g n cap ok ys i v3 v4 { X with f1 := u } (w.setCell ⟨g, i * 7 + 1, none⟩ (.bool u)) := by
  obtain ⟨oki, hH, ha, hb, hg⟩ := E.ex
  obtain ⟨hH2, hgr⟩ := h_put hH E.lt 1 (.bool u) (by decide) rfl
  exact ⟨⟨oki, hH2, ha, hb, hg⟩, Kd.R_far E.ra (p := ⟨g, _, none⟩) (fun k hk => hg k (ha k hk)) _, Kd.R_far E.rb (p := ⟨g, _, none⟩) (fun k hk => hg k (hb k hk)) _, E.ap, E.lt, E.okg, Kept.setCell E.kp (p := ⟨g, _, none⟩) (.inl E.okg.1) _, below_set E.bl E.okg.2⟩
theorem e26_put2 (E : E26 w0 ws g n cap ok ys i v3 v4 X w) (u : Int) : E26 w0 ws g n cap ok ys i v3 v4 { X with f2 := u } (w.setCell ⟨g, i * 7 + 2, none⟩ (.int .i64 u)) := by
  obtain ⟨oki, hH, ha, hb, hg⟩ := E.ex
  obtain ⟨hH2, hgr⟩ := h_put hH E.lt 2 (.int .i64 u) (by decide) rfl
  exact ⟨⟨oki, hH2, ha, hb, hg⟩, Kd.R_far E.ra (p := ⟨g, _, none⟩) (fun k hk => hg k (ha k hk)) _, Kd.R_far E.rb (p := ⟨g, _, none⟩) (fun k hk => hg k (hb k hk)) _, E.ap, E.lt, E.okg, Kept.setCell E.kp (p := ⟨g, _, none⟩) (.inl E.okg.1) _, below_set E.bl E.okg.2⟩
theorem e26_put5 (E : E26 w0 ws g n cap ok ys i v3 v4 X w) (u : Bool) : E26 w0 ws g n cap ok ys i v3 v4 { X with f5 := u } (w.setCell ⟨g, i * 7 + 5, none⟩ (.bool u)) := by
  obtain ⟨oki, hH, ha, hb, hg⟩ := E.ex
  obtain ⟨hH2, hgr⟩ := h_put hH E.lt 5 (.bool u) (by decide) rfl
  exact ⟨⟨oki, hH2, ha, hb, hg⟩, Kd.R_far E.ra (p := ⟨g, _, none⟩) (fun k hk => hg k (ha k hk)) _, Kd.R_far E.rb (p := ⟨g, _, none⟩) (fun k hk => hg k (hb k hk)) _, E.ap, E.lt, E.okg, Kept.setCell E.kp (p := ⟨g, _, none⟩) (.inl E.okg.1) _, below_set E.bl E.okg.2⟩
theorem e26_put6 (E : E26 w0 ws g n cap ok ys i v3 v4 X w) (u : Bool) : E26 w0 ws g n cap ok ys i v3 v4 { X with f6 := u } (w.setCell ⟨g, i * 7 + 6, none⟩ (.bool u)) := by
  obtain ⟨oki, hH, ha, hb, hg⟩ := E.ex
  obtain ⟨hH2, hgr⟩ := h_put hH E.lt 6 (.bool u) (by decide) rfl
  exact ⟨⟨oki, hH2, ha, hb, hg⟩, Kd.R_far E.ra (p := ⟨g, _, none⟩) (fun k hk => hg k (ha k hk)) _, Kd.R_far E.rb (p := ⟨g, _, none⟩) (fun k hk => hg k (hb k hk)) _, E.ap, E.lt, E.okg, Kept.setCell E.kp (p := ⟨g, _, none⟩) (.inl E.okg.1) _, below_set E.bl E.okg.2⟩
theorem e26_mark3 (E : E26 w0 ws g n cap ok ys i v3 v4 X w) {r : List Int} {okr : Nat → Prop} (hr : (Kd.int .i64).R 3 w1 w0.heap.size okr v3 r) (hb1 : Below w0.heap.size w0 w1) (hkp : Kept w w1 (fun k => some k = v3.ownBlock)) : E26 w0 ws g n cap ok ys i v3 v4 { X with f3 := r } w1 := by
  obtain ⟨oki, hH, ha, hb, hg⟩ := E.ex
  exact ⟨⟨oki, h_kept hH hkp ha, ha, hb, hg⟩, Kd.R_tight rfl hr, Kd.R_step E.rb (fun k hk hlt => hkp.2 k hlt (fun h => E.ap k h hk)), E.ap, E.lt, E.okg, Kept.then_ E.kp hkp (fun k hk => .inl (hH.1 k (ha k hk))), hb1⟩
theorem e26_mark4 (E : E26 w0 ws g n cap ok ys i v3 v4 X w) {r : List Int} {okr : Nat → Prop} (hr : (Kd.int .i64).R 3 w1 w0.heap.size okr v4 r) (hb1 : Below w0.heap.size w0 w1) (hkp : Kept w w1 (fun k => some k = v4.ownBlock)) : E26 w0 ws g n cap ok ys i v3 v4 { X with f4 := r } w1 := by
  obtain ⟨oki, hH, ha, hb, hg⟩ := E.ex
  exact ⟨⟨oki, h_kept hH hkp hb, ha, hb, hg⟩, Kd.R_step E.ra (fun k hk hlt => hkp.2 k hlt (fun h => E.ap k hk h)), Kd.R_tight rfl hr, E.ap, E.lt, E.okg, Kept.then_ E.kp hkp (fun k hk => .inl (hH.1 k (hb k hk))), hb1⟩
theorem e26_close (E : E26 w0 ws g n cap ok ys i v3 v4 X w) : Kd.S k26s 26 w w0.heap.size ok (.slice (some ⟨g, 0, none⟩) n cap) (ys.set i X) := by
  obtain ⟨oki, hH, ha, hb, hg⟩ := E.ex
  exact Kd.H_back hH (k26s_mk (k26_mkM w w0.heap.size oki X (Kd.R_mono E.ra ha) (Kd.R_mono E.rb hb)) (fun k h3 h5 => E.ap k h3.symm h5.symm)) (fun _ h => h)
end
def mkEO (x : S26) (k : Int) : S26 := ⟨k, b3 (k + 1), k + 1 + 1, mk x.f3 (k + 1 + 1 + 1), mk x.f4 (k + 1 + 1 + 1 + (x.f3.length : Int)), b3 (k + 1 + 1 + 1 + (x.f3.length : Int) + (x.f4.length : Int)), b3 (k + 1 + 1 + 1 + (x.f3.length : Int) + (x.f4.length : Int) + 1)⟩
def lenO (x : S26) : Int := 5 + (x.f3.length : Int) + (x.f4.length : Int)
def mkLO : List S26 → Int → List S26
 | [], _ => []
 | x :: r, k => mkEO x k :: mkLO r (k + lenO x)
def totO (xs : List S26) : Int := (xs.map lenO).sum
theorem lenO_pos (x : S26) : 1 ≤ lenO x := by unfold lenO; omega
theorem mkLO_len (xs : List S26) : ∀ k, (mkLO xs k).length = xs.length := by
  induction xs with
  | nil => intro k; rfl
  | cons x r ih => intro k; simp [mkLO, ih]
theorem mkLO_app (x : S26) (xs : List S26) : ∀ k, mkLO (xs ++ [x]) k = mkLO xs k ++ [mkEO x (k + totO xs)] := by
  induction xs with
  | nil => intro k; simp [mkLO, totO]
  | cons y r ih => intro k; simp only [List.cons_append, mkLO, ih, totO, List.map_cons, List.sum_cons, Int.add_assoc]
theorem totO_app (x : S26) (xs : List S26) : totO (xs ++ [x]) = totO xs + lenO x := by simp [totO]
theorem totO_len (xs : List S26) : (xs.length : Int) ≤ totO xs := by
  induction xs with
  | nil => simp [totO]
  | cons y r ih => have := lenO_pos y; simp only [totO, List.map_cons, List.sum_cons, List.length_cons] at ih ⊢; omega
theorem totO_take (xs : List S26) (i : Nat) (h : i < xs.length) : totO (xs.take (i + 1)) = totO (xs.take i) + lenO (xs.getD i z26) ∧ totO (xs.take (i + 1)) ≤ totO xs ∧ 0 ≤ totO (xs.take i) := by
  have e : xs.take (i + 1) = xs.take i ++ [xs.getD i z26] := by rw [List.take_succ_eq_append_getElem h, List.getD_eq_getElem?_getD, List.getElem?_eq_getElem h]; rfl
  refine ⟨by rw [e, totO_app], ?_, ?_⟩
  · have h2 : totO xs = totO (xs.take (i + 1)) + totO (xs.drop (i + 1)) := by
      conv => lhs; rw [← List.take_append_drop (i + 1) xs]
      simp only [totO, List.map_append, List.sum_append]
    have h3 := totO_len (xs.drop (i + 1))
    omega
  · have h3 := totO_len (xs.take i); omega
theorem mkO_get (xs : List S26) (k : Int) (i : Nat) (h : i < xs.length) : (mkLO (xs.take i) k ++ xs.drop i).getD i z26 = xs.getD i z26 := by
  have hl : (mkLO (xs.take i) k).length = i := by rw [mkLO_len, List.length_take]; omega
  rw [List.getD_eq_getElem?_getD, List.getElem?_append_right (by omega), hl, List.getElem?_drop, Nat.sub_self, Nat.add_zero, ← List.getD_eq_getElem?_getD]
theorem mkO_set (xs : List S26) (k : Int) (i : Nat) (h : i < xs.length) : (mkLO (xs.take i) k ++ xs.drop i).set i (mkEO (xs.getD i z26) (k + totO (xs.take i))) = mkLO (xs.take (i + 1)) k ++ xs.drop (i + 1) := by
  have hl : (mkLO (xs.take i) k).length = i := by rw [mkLO_len, List.length_take]; omega
  have e : xs.take (i + 1) = xs.take i ++ [xs.getD i z26] := by rw [List.take_succ_eq_append_getElem h, List.getD_eq_getElem?_getD, List.getElem?_eq_getElem h]; rfl
  rw [e, mkLO_app, List.set_append_right _ _ (by omega), hl, Nat.sub_self, List.drop_eq_getElem_cons h, List.set_cons_zero, List.append_assoc]
  rfl
set_option maxHeartbeats 4000000 in
set_option maxRecDepth 100000 in
theorem laws_markRecordS.calls (kk N : Nat) (ok : Nat → Prop) (u : Value) (xs : List S57) (k0 : Int) (w0 w : World) (hB : Below w0.heap.size w0 w) (hS : Kd.S k57s 57 w w0.heap.size ok u xs) (hM : MarksOk kk N) (h0 : 0 ≤ k0) (hb : k0 + totR xs ≤ 4611686018427387000) (hN : totR xs ≤ (N : Int)) :
    Calls Try.prog 65 #[u, .int .i64 k0] w fun e w' => e = .returned (.int .i64 (k0 + totR xs)) ∧ Kd.S k57s 57 w' w0.heap.size ok u (mkLR xs k0) ∧ Below w0.heap.size w0 w' ∧ Kept w w' ok := by
  have hu57 := Try.underlying57
  obtain ⟨A, c, rfl⟩ := Kd.S_slice hS
  have HS0 := Aside0.mk hS
  have HB0 := Aside0.mk hB
  have HMK := Aside0.mk hM
  have HB1 := Aside0.mk (And.intro h0 (And.intro hb hN))
  clear hS hB hM h0 hb hN
  go_enter Try.func65, Try.ntmps65
  go_wp2
  go_loopg [1, 5] (xs.length + 1) (fun kq v1 v5 w' => ∃ i : Nat, v5 = .int .i64 (i : Int) ∧ v1 = .int .i64 (k0 + totR (xs.take i)) ∧ Aside0 (i ≤ xs.length ∧ kq + i = xs.length + 1) ∧ Aside0 (Kd.S k57s 57 w' w0.heap.size ok (.slice A xs.length c) (mkLR (xs.take i) k0 ++ xs.drop i)) ∧ Aside0 (Below w0.heap.size w0 w') ∧ Aside0 (Kept w w' ok))
  case atStart => exact ⟨0, rfl, by simp [totR], ⟨by omega, by omega⟩, ⟨HS0.out⟩, ⟨HB0.out⟩, ⟨Kept.refl _ _⟩⟩
  case round =>
    obtain ⟨i, rfl, rfl, HJ, HS, HB, HK⟩ := hrel
    cases gk with
    | zero => exact absurd HJ.out (by omega)
    | succ kf =>
    by_cases hj : i < xs.length
    · have d1 : decide ((i : Int) < (xs.length : Int)) = true := decide_eq_true (by omega)
      have d1n : decide (i < xs.length) = true := decide_eq_true hj
      have q1 : (i < xs.length) = True := eq_true hj
      have hylen : (mkLR (xs.take i) k0 ++ xs.drop i).length = xs.length := by rw [List.length_append, mkLR_len, List.length_take, List.length_drop]; omega
      obtain ⟨g, cap, ev, hg1, hg2, _⟩ := Kd.S_form HS.out (by omega)
      rw [hylen] at ev
      injection ev with ev1 ev2 ev3
      subst ev1
      subst ev3
      obtain ⟨v3, v5, E⟩ := e57_open HS.out hj hg1 HK.out HB.out
      rw [mkR_get xs k0 i hj] at E
      have hmks := mkR_set xs k0 i hj
      obtain ⟨ht1, ht2, ht3⟩ := totR_take xs i hj
      have htl := totR_len (xs.take (i + 1))
      rw [List.length_take] at htl
      obtain ⟨k, hk⟩ : ∃ k, k = k0 + totR (xs.take i) := ⟨_, rfl⟩
      have hke : k0 + totR (xs.take (i + 1)) = k + lenR (xs.getD i z57) := by rw [ht1, hk]; omega
      rw [← hk] at hmks
      rw [← hk]
      have hk0 : 0 ≤ k := by have := HB1.out.1; omega
      have hkb : k + lenR (xs.getD i z57) ≤ 4611686018427387000 := by have := HB1.out; omega
      have hle : lenR (xs.getD i z57) ≤ (N : Int) := by have := HB1.out; omega
      have hib : (i : Int) + 1 ≤ 4611686018427387000 := by have := HB1.out; have := totR_len xs; omega
      have wi : wrap64 ((i : Int) + 1) = (i : Int) + 1 := by unfold wrap64; omega
      have wi' : IntKind.i64.wrap ((i : Int) + 1) = (i : Int) + 1 := (i64_w _).trans wi
      generalize hX : xs.getD i z57 = X at *
      unfold lenR at hkb hle
      clear ht1 ht2 ht3 htl hX hg1 hg2 hylen hib
      have HK0 := Aside0.mk (And.intro hk (And.intro hke (And.intro hk0 (And.intro hkb hle))))
      have HMS := Aside0.mk hmks
      have HQ := Aside0.mk hj
      clear hk hke hk0 hkb hle hmks HS HB HK hj
      have HE := Aside0.mk E
      clear E
      obtain ⟨hx0, hx1, hx2, hx3, hx4, hx5, hfz⟩ := e57_cells HE.out
      have hf := hfz (i * 6)
      clear hfz hx1 hx2 hx3 hx4 hx5
      obtain ⟨m1, hkn⟩ : ∃ q, q = k + 1 := ⟨_, rfl⟩
      have wk : wrap64 (k + 1) = m1 := by have := HK0.out;  unfold wrap64; omega
      have wk' : IntKind.i64.wrap (k + 1) = m1 := (i64_w _).trans wk
      have HKN1 := Aside0.mk hkn
      clear hkn
      have hpt := e57_put0 HE.out (k)
      go_upto_region 6 with ((with_reducible refine gate_store (t := 3) (p := 16) rfl ?_); refine store_event (t := 3) (p := 16) (v := ?vo) (w1 := wr.setCell ⟨g, i * 6, none⟩ (.int .i64 (k))) ?hg ?ho ?hn ?hr ?_; (case ho => rfl); (case hg => rfl); (case hn => rfl); (case hr => first | (go_simp; done) | (go_simp; rfl)); intro q_ hw; subst hw)
      generalize wr.setCell ⟨g, i * 6, none⟩ (.int .i64 (k)) = w0_ at hpt ⊢
      have HEn := Aside0.mk hpt
      clear HE hpt hf hx0
      have HE := HEn
      clear HEn
      clear wk wk'
      obtain ⟨hx0, hx1, hx2, hx3, hx4, hx5, hfz⟩ := e57_cells HE.out
      have hf := hfz (i * 6 + 1)
      clear hfz hx0 hx2 hx3 hx4 hx5
      obtain ⟨m2, hkn⟩ : ∃ q, q = m1 + 1 := ⟨_, rfl⟩
      have wk : wrap64 (m1 + 1) = m2 := by have := HK0.out; have := HKN1.out; unfold wrap64; omega
      have wk' : IntKind.i64.wrap (m1 + 1) = m2 := (i64_w _).trans wk
      have HKN2 := Aside0.mk hkn
      clear hkn
      have hpt := e57_put1 HE.out (m1)
      go_upto_region 8 with ((with_reducible refine gate_store (t := 3) (p := 23) rfl ?_); refine store_event (t := 3) (p := 23) (v := ?vo) (w1 := w0_.setCell ⟨g, i * 6 + 1, none⟩ (.int .i64 (m1))) ?hg ?ho ?hn ?hr ?_; (case ho => rfl); (case hg => rfl); (case hn => rfl); (case hr => first | (go_simp; done) | (go_simp; rfl)); intro q_ hw; subst hw)
      generalize w0_.setCell ⟨g, i * 6 + 1, none⟩ (.int .i64 (m1)) = w1_ at hpt ⊢
      have HEn := Aside0.mk hpt
      clear HE hpt hf hx1
      have HE := HEn
      clear HEn
      clear wk wk'
      obtain ⟨hx0, hx1, hx2, hx3, hx4, hx5, hfz⟩ := e57_cells HE.out
      have hf := hfz (i * 6 + 2)
      clear hfz hx0 hx1 hx3 hx4 hx5
      obtain ⟨m3, hkn⟩ : ∃ q, q = m2 + 1 := ⟨_, rfl⟩
      have wk : wrap64 (m2 + 1) = m3 := by have := HK0.out; have := HKN1.out; have := HKN2.out; unfold wrap64; omega
      have wk' : IntKind.i64.wrap (m2 + 1) = m3 := (i64_w _).trans wk
      have HKN3 := Aside0.mk hkn
      clear hkn
      have hb3 : (Int.tmod m2 3 == 0) = b3 m2 := rfl
      have hpt := e57_put2 HE.out (b3 (m2))
      go_upto_region 10 with ((with_reducible refine gate_store (t := 4) (p := 32) rfl ?_); refine store_event (t := 4) (p := 32) (v := ?vo) (w1 := w1_.setCell ⟨g, i * 6 + 2, none⟩ (.bool (b3 (m2)))) ?hg ?ho ?hn ?hr ?_; (case ho => rfl); (case hg => rfl); (case hn => rfl); (case hr => first | (go_simp; done) | (go_simp; rfl)); intro q_ hw; subst hw)
      generalize w1_.setCell ⟨g, i * 6 + 2, none⟩ (.bool (b3 (m2))) = w2_ at hpt ⊢
      have HEn := Aside0.mk hpt
      clear HE hpt hf hx2 hb3
      have HE := HEn
      clear HEn
      clear wk wk'
      obtain ⟨hx0, hx1, hx2, hx3, hx4, hx5, hfz⟩ := e57_cells HE.out
      have hf := hfz (i * 6 + 3)
      clear hfz hx0 hx1 hx2 hx4 hx5
      clear hf
      obtain ⟨m4, ek4⟩ : ∃ q, q = m3 + (X.f3.length : Int) := ⟨_, rfl⟩
      have hmf : laws_markIntS.f kk X.f3 m3 = some (m4, mk X.f3 m3) := by rw [ek4]; exact HMK.out _ _ (by have := HK0.out; omega) (by have := HK0.out; have := HKN1.out; have := HKN2.out; have := HKN3.out; omega) (by have := HK0.out; have := HKN1.out; have := HKN2.out; have := HKN3.out; omega)
      have h43 := laws_markIntS.calls kk _ v3 X.f3 m3 _ _ w0 w2_ HE.out.bl HE.out.ra hmf
      have HKN4 := Aside0.mk ek4
      clear hmf ek4
      obtain ⟨Av3, cv3, ev3⟩ := Kd.R_slice HE.out.ra
      have EV3 := Aside0.mk ev3
      rw [ev3] at hx3 h43
      clear ev3
      go_upto_region 11 with (go_at_call 43; refine h43.mono ?_; rintro e w3_ ⟨rfl, hr, hb1, hkp⟩; have HEn := Aside0.mk (e57_mark3 HE.out (EV3.out.symm ▸ hr) hb1 (EV3.out.symm ▸ hkp)); clear hr hb1 hkp h43 HE)
      have HE := HEn
      clear HEn hx3
      obtain ⟨hx0, hx1, hx2, hx3, hx4, hx5, hfz⟩ := e57_cells HE.out
      have hf := hfz (i * 6 + 4)
      clear hfz hx0 hx1 hx2 hx3 hx5
      obtain ⟨m5, hkn⟩ : ∃ q, q = m4 + 1 := ⟨_, rfl⟩
      have wk : wrap64 (m4 + 1) = m5 := by have := HK0.out; have := HKN1.out; have := HKN2.out; have := HKN3.out; have := HKN4.out; unfold wrap64; omega
      have wk' : IntKind.i64.wrap (m4 + 1) = m5 := (i64_w _).trans wk
      have HKN5 := Aside0.mk hkn
      clear hkn
      have hb3 : (Int.tmod m4 3 == 0) = b3 m4 := rfl
      have hpt := e57_put4 HE.out (b3 (m4))
      go_upto_region 13 with ((with_reducible refine gate_store (t := 4) (p := 48) rfl ?_); refine store_event (t := 4) (p := 48) (v := ?vo) (w1 := w3_.setCell ⟨g, i * 6 + 4, none⟩ (.bool (b3 (m4)))) ?hg ?ho ?hn ?hr ?_; (case ho => rfl); (case hg => rfl); (case hn => rfl); (case hr => first | (go_simp; done) | (go_simp; rfl)); intro q_ hw; subst hw)
      generalize w3_.setCell ⟨g, i * 6 + 4, none⟩ (.bool (b3 (m4))) = w4_ at hpt ⊢
      have HEn := Aside0.mk hpt
      clear HE hpt hf hx4 hb3
      have HE := HEn
      clear HEn
      clear wk wk'
      obtain ⟨hx0, hx1, hx2, hx3, hx4, hx5, hfz⟩ := e57_cells HE.out
      have hf := hfz (i * 6 + 5)
      clear hfz hx0 hx1 hx2 hx3 hx4
      clear hf
      obtain ⟨m6, ek6⟩ : ∃ q, q = m5 + (X.f5.length : Int) := ⟨_, rfl⟩
      have hmf : laws_markIntS.f kk X.f5 m5 = some (m6, mk X.f5 m5) := by rw [ek6]; exact HMK.out _ _ (by have := HK0.out; omega) (by have := HK0.out; have := HKN1.out; have := HKN2.out; have := HKN3.out; have := HKN4.out; have := HKN5.out; omega) (by have := HK0.out; have := HKN1.out; have := HKN2.out; have := HKN3.out; have := HKN4.out; have := HKN5.out; omega)
      have h43 := laws_markIntS.calls kk _ v5 X.f5 m5 _ _ w0 w4_ HE.out.bl HE.out.rb hmf
      have HKN6 := Aside0.mk ek6
      clear hmf ek6
      obtain ⟨Av5, cv5, ev5⟩ := Kd.R_slice HE.out.rb
      have EV5 := Aside0.mk ev5
      rw [ev5] at hx5 h43
      clear ev5
      go_wp2_with (go_at_call 43; refine h43.mono ?_; rintro e w5_ ⟨rfl, hr, hb1, hkp⟩; have HEn := Aside0.mk (e57_mark5 HE.out (EV5.out.symm ▸ hr) hb1 (EV5.out.symm ▸ hkp)); clear hr hb1 hkp h43 HE)
      have HE := HEn
      clear HEn hx5
      have HKE : m6 = k0 + totR (xs.take (i + 1)) := by have hh := HK0.out; unfold lenR at hh; have := HKN1.out; have := HKN2.out; have := HKN3.out; have := HKN4.out; have := HKN5.out; have := HKN6.out; omega
      go_roundg kf
      case measure => omega
      case rel => exact ⟨i + 1, by simp, by rw [HKE], ⟨by have := HJ.out; have := HQ.out; omega⟩, ⟨by have h := e57_close HE.out; have q1 := HKN1.out; have q2 := HKN2.out; have q3 := HKN3.out; have q4 := HKN4.out; have q5 := HKN5.out; have q6 := HKN6.out; subst q6; subst q5; subst q4; subst q3; subst q2; subst q1; rw [← HMS.out]; exact h⟩, ⟨HE.out.bl⟩, ⟨HE.out.kp⟩⟩
    · have d1 : decide ((i : Int) < (xs.length : Int)) = false := decide_eq_false (by omega)
      have d1n : decide (i < xs.length) = false := decide_eq_false hj
      have hi : i = xs.length := by have := HJ.out; omega
      have HI := Aside0.mk hi
      clear hi
      go_wp2
      go_ret
      obtain ⟨hi⟩ := HI
      subst hi
      refine ⟨by rw [List.take_length]; rfl, ?_, HB.out, HK.out⟩
      have h := HS.out
      rw [List.take_length, List.drop_length, List.append_nil] at h
      exact h
set_option maxHeartbeats 4000000 in
set_option maxRecDepth 100000 in
theorem laws_markOldS.calls (kk N : Nat) (ok : Nat → Prop) (u : Value) (xs : List S26) (k0 : Int) (w0 w : World) (hB : Below w0.heap.size w0 w) (hS : Kd.S k26s 26 w w0.heap.size ok u xs) (hM : MarksOk kk N) (h0 : 0 ≤ k0) (hb : k0 + totO xs ≤ 4611686018427387000) (hN : totO xs ≤ (N : Int)) :
    Calls Try.prog 28 #[u, .int .i64 k0] w fun e w' => e = .returned (.int .i64 (k0 + totO xs)) ∧ Kd.S k26s 26 w' w0.heap.size ok u (mkLO xs k0) ∧ Below w0.heap.size w0 w' ∧ Kept w w' ok := by
  have hu26 := Try.underlying26
  obtain ⟨A, c, rfl⟩ := Kd.S_slice hS
  have HS0 := Aside0.mk hS
  have HB0 := Aside0.mk hB
  have HMK := Aside0.mk hM
  have HB1 := Aside0.mk (And.intro h0 (And.intro hb hN))
  clear hS hB hM h0 hb hN
  go_enter Try.func28, Try.ntmps28
  go_wp2
  go_loopg [1, 5] (xs.length + 1) (fun kq v1 v5 w' => ∃ i : Nat, v5 = .int .i64 (i : Int) ∧ v1 = .int .i64 (k0 + totO (xs.take i)) ∧ Aside0 (i ≤ xs.length ∧ kq + i = xs.length + 1) ∧ Aside0 (Kd.S k26s 26 w' w0.heap.size ok (.slice A xs.length c) (mkLO (xs.take i) k0 ++ xs.drop i)) ∧ Aside0 (Below w0.heap.size w0 w') ∧ Aside0 (Kept w w' ok))
  case atStart => exact ⟨0, rfl, by simp [totO], ⟨by omega, by omega⟩, ⟨HS0.out⟩, ⟨HB0.out⟩, ⟨Kept.refl _ _⟩⟩
  case round =>
    obtain ⟨i, rfl, rfl, HJ, HS, HB, HK⟩ := hrel
    cases gk with
    | zero => exact absurd HJ.out (by omega)
    | succ kf =>
    by_cases hj : i < xs.length
    · have d1 : decide ((i : Int) < (xs.length : Int)) = true := decide_eq_true (by omega)
      have d1n : decide (i < xs.length) = true := decide_eq_true hj
      have q1 : (i < xs.length) = True := eq_true hj
      have hylen : (mkLO (xs.take i) k0 ++ xs.drop i).length = xs.length := by rw [List.length_append, mkLO_len, List.length_take, List.length_drop]; omega
      obtain ⟨g, cap, ev, hg1, hg2, _⟩ := Kd.S_form HS.out (by omega)
      rw [hylen] at ev
      injection ev with ev1 ev2 ev3
      subst ev1
      subst ev3
      obtain ⟨v3, v4, E⟩ := e26_open HS.out hj hg1 HK.out HB.out
      rw [mkO_get xs k0 i hj] at E
      have hmks := mkO_set xs k0 i hj
      obtain ⟨ht1, ht2, ht3⟩ := totO_take xs i hj
      have htl := totO_len (xs.take (i + 1))
      rw [List.length_take] at htl
      obtain ⟨k, hk⟩ : ∃ k, k = k0 + totO (xs.take i) := ⟨_, rfl⟩
      have hke : k0 + totO (xs.take (i + 1)) = k + lenO (xs.getD i z26) := by rw [ht1, hk]; omega
      rw [← hk] at hmks
      rw [← hk]
      have hk0 : 0 ≤ k := by have := HB1.out.1; omega
      have hkb : k + lenO (xs.getD i z26) ≤ 4611686018427387000 := by have := HB1.out; omega
      have hle : lenO (xs.getD i z26) ≤ (N : Int) := by have := HB1.out; omega
      have hib : (i : Int) + 1 ≤ 4611686018427387000 := by have := HB1.out; have := totO_len xs; omega
      have wi : wrap64 ((i : Int) + 1) = (i : Int) + 1 := by unfold wrap64; omega
      have wi' : IntKind.i64.wrap ((i : Int) + 1) = (i : Int) + 1 := (i64_w _).trans wi
      generalize hX : xs.getD i z26 = X at *
      unfold lenO at hkb hle
      clear ht1 ht2 ht3 htl hX hg1 hg2 hylen hib
      have HK0 := Aside0.mk (And.intro hk (And.intro hke (And.intro hk0 (And.intro hkb hle))))
      have HMS := Aside0.mk hmks
      have HQ := Aside0.mk hj
      clear hk hke hk0 hkb hle hmks HS HB HK hj
      have HE := Aside0.mk E
      clear E
      obtain ⟨hx0, hx1, hx2, hx3, hx4, hx5, hx6, hfz⟩ := e26_cells HE.out
      have hf := hfz (i * 7)
      clear hfz hx1 hx2 hx3 hx4 hx5 hx6
      obtain ⟨m1, hkn⟩ : ∃ q, q = k + 1 := ⟨_, rfl⟩
      have wk : wrap64 (k + 1) = m1 := by have := HK0.out;  unfold wrap64; omega
      have wk' : IntKind.i64.wrap (k + 1) = m1 := (i64_w _).trans wk
      have HKN1 := Aside0.mk hkn
      clear hkn
      have hpt := e26_put0 HE.out (k)
      go_upto_region 6 with ((with_reducible refine gate_store (t := 3) (p := 16) rfl ?_); refine store_event (t := 3) (p := 16) (v := ?vo) (w1 := wr.setCell ⟨g, i * 7, none⟩ (.int .i64 (k))) ?hg ?ho ?hn ?hr ?_; (case ho => rfl); (case hg => rfl); (case hn => rfl); (case hr => first | (go_simp; done) | (go_simp; rfl)); intro q_ hw; subst hw)
      generalize wr.setCell ⟨g, i * 7, none⟩ (.int .i64 (k)) = w0_ at hpt ⊢
      have HEn := Aside0.mk hpt
      clear HE hpt hf hx0
      have HE := HEn
      clear HEn
      clear wk wk'
      obtain ⟨hx0, hx1, hx2, hx3, hx4, hx5, hx6, hfz⟩ := e26_cells HE.out
      have hf := hfz (i * 7 + 1)
      clear hfz hx0 hx2 hx3 hx4 hx5 hx6
      obtain ⟨m2, hkn⟩ : ∃ q, q = m1 + 1 := ⟨_, rfl⟩
      have wk : wrap64 (m1 + 1) = m2 := by have := HK0.out; have := HKN1.out; unfold wrap64; omega
      have wk' : IntKind.i64.wrap (m1 + 1) = m2 := (i64_w _).trans wk
      have HKN2 := Aside0.mk hkn
      clear hkn
      have hb3 : (Int.tmod m1 3 == 0) = b3 m1 := rfl
      have hpt := e26_put1 HE.out (b3 (m1))
      go_upto_region 8 with ((with_reducible refine gate_store (t := 4) (p := 24) rfl ?_); refine store_event (t := 4) (p := 24) (v := ?vo) (w1 := w0_.setCell ⟨g, i * 7 + 1, none⟩ (.bool (b3 (m1)))) ?hg ?ho ?hn ?hr ?_; (case ho => rfl); (case hg => rfl); (case hn => rfl); (case hr => first | (go_simp; done) | (go_simp; rfl)); intro q_ hw; subst hw)
      generalize w0_.setCell ⟨g, i * 7 + 1, none⟩ (.bool (b3 (m1))) = w1_ at hpt ⊢
      have HEn := Aside0.mk hpt
      clear HE hpt hf hx1 hb3
      have HE := HEn
      clear HEn
      clear wk wk'
      obtain ⟨hx0, hx1, hx2, hx3, hx4, hx5, hx6, hfz⟩ := e26_cells HE.out
      have hf := hfz (i * 7 + 2)
      clear hfz hx0 hx1 hx3 hx4 hx5 hx6
      obtain ⟨m3, hkn⟩ : ∃ q, q = m2 + 1 := ⟨_, rfl⟩
      have wk : wrap64 (m2 + 1) = m3 := by have := HK0.out; have := HKN1.out; have := HKN2.out; unfold wrap64; omega
      have wk' : IntKind.i64.wrap (m2 + 1) = m3 := (i64_w _).trans wk
      have HKN3 := Aside0.mk hkn
      clear hkn
      have hpt := e26_put2 HE.out (m2)
      go_upto_region 10 with ((with_reducible refine gate_store (t := 3) (p := 32) rfl ?_); refine store_event (t := 3) (p := 32) (v := ?vo) (w1 := w1_.setCell ⟨g, i * 7 + 2, none⟩ (.int .i64 (m2))) ?hg ?ho ?hn ?hr ?_; (case ho => rfl); (case hg => rfl); (case hn => rfl); (case hr => first | (go_simp; done) | (go_simp; rfl)); intro q_ hw; subst hw)
      generalize w1_.setCell ⟨g, i * 7 + 2, none⟩ (.int .i64 (m2)) = w2_ at hpt ⊢
      have HEn := Aside0.mk hpt
      clear HE hpt hf hx2
      have HE := HEn
      clear HEn
      clear wk wk'
      obtain ⟨hx0, hx1, hx2, hx3, hx4, hx5, hx6, hfz⟩ := e26_cells HE.out
      have hf := hfz (i * 7 + 3)
      clear hfz hx0 hx1 hx2 hx4 hx5 hx6
      clear hf
      obtain ⟨m4, ek4⟩ : ∃ q, q = m3 + (X.f3.length : Int) := ⟨_, rfl⟩
      have hmf : laws_markIntS.f kk X.f3 m3 = some (m4, mk X.f3 m3) := by rw [ek4]; exact HMK.out _ _ (by have := HK0.out; omega) (by have := HK0.out; have := HKN1.out; have := HKN2.out; have := HKN3.out; omega) (by have := HK0.out; have := HKN1.out; have := HKN2.out; have := HKN3.out; omega)
      have h43 := laws_markIntS.calls kk _ v3 X.f3 m3 _ _ w0 w2_ HE.out.bl HE.out.ra hmf
      have HKN4 := Aside0.mk ek4
      clear hmf ek4
      obtain ⟨Av3, cv3, ev3⟩ := Kd.R_slice HE.out.ra
      have EV3 := Aside0.mk ev3
      rw [ev3] at hx3 h43
      clear ev3
      go_upto_region 11 with (go_at_call 43; refine h43.mono ?_; rintro e w3_ ⟨rfl, hr, hb1, hkp⟩; have HEn := Aside0.mk (e26_mark3 HE.out (EV3.out.symm ▸ hr) hb1 (EV3.out.symm ▸ hkp)); clear hr hb1 hkp h43 HE)
      have HE := HEn
      clear HEn hx3
      obtain ⟨hx0, hx1, hx2, hx3, hx4, hx5, hx6, hfz⟩ := e26_cells HE.out
      have hf := hfz (i * 7 + 4)
      clear hfz hx0 hx1 hx2 hx3 hx5 hx6
      clear hf
      obtain ⟨m5, ek5⟩ : ∃ q, q = m4 + (X.f4.length : Int) := ⟨_, rfl⟩
      have hmf : laws_markIntS.f kk X.f4 m4 = some (m5, mk X.f4 m4) := by rw [ek5]; exact HMK.out _ _ (by have := HK0.out; omega) (by have := HK0.out; have := HKN1.out; have := HKN2.out; have := HKN3.out; have := HKN4.out; omega) (by have := HK0.out; have := HKN1.out; have := HKN2.out; have := HKN3.out; have := HKN4.out; omega)
      have h43 := laws_markIntS.calls kk _ v4 X.f4 m4 _ _ w0 w3_ HE.out.bl HE.out.rb hmf
      have HKN5 := Aside0.mk ek5
      clear hmf ek5
      obtain ⟨Av4, cv4, ev4⟩ := Kd.R_slice HE.out.rb
      have EV4 := Aside0.mk ev4
      rw [ev4] at hx4 h43
      clear ev4
      go_upto_region 12 with (go_at_call 43; refine h43.mono ?_; rintro e w4_ ⟨rfl, hr, hb1, hkp⟩; have HEn := Aside0.mk (e26_mark4 HE.out (EV4.out.symm ▸ hr) hb1 (EV4.out.symm ▸ hkp)); clear hr hb1 hkp h43 HE)
      have HE := HEn
      clear HEn hx4
      obtain ⟨hx0, hx1, hx2, hx3, hx4, hx5, hx6, hfz⟩ := e26_cells HE.out
      have hf := hfz (i * 7 + 5)
      clear hfz hx0 hx1 hx2 hx3 hx4 hx6
      obtain ⟨m6, hkn⟩ : ∃ q, q = m5 + 1 := ⟨_, rfl⟩
      have wk : wrap64 (m5 + 1) = m6 := by have := HK0.out; have := HKN1.out; have := HKN2.out; have := HKN3.out; have := HKN4.out; have := HKN5.out; unfold wrap64; omega
      have wk' : IntKind.i64.wrap (m5 + 1) = m6 := (i64_w _).trans wk
      have HKN6 := Aside0.mk hkn
      clear hkn
      have hb3 : (Int.tmod m5 3 == 0) = b3 m5 := rfl
      have hpt := e26_put5 HE.out (b3 (m5))
      go_upto_region 14 with ((with_reducible refine gate_store (t := 4) (p := 54) rfl ?_); refine store_event (t := 4) (p := 54) (v := ?vo) (w1 := w4_.setCell ⟨g, i * 7 + 5, none⟩ (.bool (b3 (m5)))) ?hg ?ho ?hn ?hr ?_; (case ho => rfl); (case hg => rfl); (case hn => rfl); (case hr => first | (go_simp; done) | (go_simp; rfl)); intro q_ hw; subst hw)
      generalize w4_.setCell ⟨g, i * 7 + 5, none⟩ (.bool (b3 (m5))) = w5_ at hpt ⊢
      have HEn := Aside0.mk hpt
      clear HE hpt hf hx5 hb3
      have HE := HEn
      clear HEn
      clear wk wk'
      obtain ⟨hx0, hx1, hx2, hx3, hx4, hx5, hx6, hfz⟩ := e26_cells HE.out
      have hf := hfz (i * 7 + 6)
      clear hfz hx0 hx1 hx2 hx3 hx4 hx5
      obtain ⟨m7, hkn⟩ : ∃ q, q = m6 + 1 := ⟨_, rfl⟩
      have wk : wrap64 (m6 + 1) = m7 := by have := HK0.out; have := HKN1.out; have := HKN2.out; have := HKN3.out; have := HKN4.out; have := HKN5.out; have := HKN6.out; unfold wrap64; omega
      have wk' : IntKind.i64.wrap (m6 + 1) = m7 := (i64_w _).trans wk
      have HKN7 := Aside0.mk hkn
      clear hkn
      have hb3 : (Int.tmod m6 3 == 0) = b3 m6 := rfl
      have hpt := e26_put6 HE.out (b3 (m6))
      go_wp2_with ((with_reducible refine gate_store (t := 4) (p := 63) rfl ?_); refine store_event (t := 4) (p := 63) (v := ?vo) (w1 := w5_.setCell ⟨g, i * 7 + 6, none⟩ (.bool (b3 (m6)))) ?hg ?ho ?hn ?hr ?_; (case ho => rfl); (case hg => rfl); (case hn => rfl); (case hr => first | (go_simp; done) | (go_simp; rfl)); intro q_ hw; subst hw)
      generalize w5_.setCell ⟨g, i * 7 + 6, none⟩ (.bool (b3 (m6))) = w6_ at hpt ⊢
      have HEn := Aside0.mk hpt
      clear HE hpt hf hx6 hb3
      have HE := HEn
      clear HEn
      clear wk wk'
      have HKE : m7 = k0 + totO (xs.take (i + 1)) := by have hh := HK0.out; unfold lenO at hh; have := HKN1.out; have := HKN2.out; have := HKN3.out; have := HKN4.out; have := HKN5.out; have := HKN6.out; have := HKN7.out; omega
      go_roundg kf
      case measure => omega
      case rel => exact ⟨i + 1, by simp, by rw [HKE], ⟨by have := HJ.out; have := HQ.out; omega⟩, ⟨by have h := e26_close HE.out; have q1 := HKN1.out; have q2 := HKN2.out; have q3 := HKN3.out; have q4 := HKN4.out; have q5 := HKN5.out; have q6 := HKN6.out; have q7 := HKN7.out; subst q7; subst q6; subst q5; subst q4; subst q3; subst q2; subst q1; rw [← HMS.out]; exact h⟩, ⟨HE.out.bl⟩, ⟨HE.out.kp⟩⟩
    · have d1 : decide ((i : Int) < (xs.length : Int)) = false := decide_eq_false (by omega)
      have d1n : decide (i < xs.length) = false := decide_eq_false hj
      have hi : i = xs.length := by have := HJ.out; omega
      have HI := Aside0.mk hi
      clear hi
      go_wp2
      go_ret
      obtain ⟨hi⟩ := HI
      subst hi
      refine ⟨by rw [List.take_length]; rfl, ?_, HB.out, HK.out⟩
      have h := HS.out
      rw [List.take_length, List.drop_length, List.append_nil] at h
      exact h
set_option maxHeartbeats 4000000 in
set_option maxRecDepth 100000 in
theorem laws_markBatch.calls (kk N : Nat) (ok : Nat → Prop) (A : Option Addr) (c : Nat) (p r : Bool) (a b q : Int) (xs : List S57) (k0 : Int) (w0 w : World) (hB : Below w0.heap.size w0 w) (hS : Kd.S k57s 57 w w0.heap.size ok (.slice A xs.length c) xs) (hM : MarksOk kk N) (h0 : 0 ≤ k0) (hb : k0 + totR xs ≤ 4611686018427387000) (hN : totR xs ≤ (N : Int)) :
    Calls Try.prog 29 #[.agg #[.bool p, .bool r, .int .i64 a, .int .i64 b, .int .i64 q, .slice A xs.length c], .int .i64 k0] w fun e w' => e = .returned (.int .i64 (k0 + totR xs)) ∧ Kd.S k57s 57 w' w0.heap.size ok (.slice A xs.length c) (mkLR xs k0) ∧ Below w0.heap.size w0 w' ∧ Kept w w' ok := by
  have hu39 := Try.underlying39
  have hbk : (w.alloc (.cells #[.bool p, .bool r, .int .i64 a, .int .i64 b, .int .i64 q, .slice A xs.length c] 39)).heap[w.heap.size]? = some (.cells #[.bool p, .bool r, .int .i64 a, .int .i64 b, .int .i64 q, .slice A xs.length c] 39 (0, 0)) := blk_new w _
  have hbw : Below w.heap.size w (w.alloc (.cells #[.bool p, .bool r, .int .i64 a, .int .i64 b, .int .i64 q, .slice A xs.length c] 39)) := below_alloc (Below.refl _ _) _
  have HW := Aside0.mk (And.intro hB (And.intro hS (And.intro hM (And.intro h0 (And.intro hb hN)))))
  clear hB hS hM h0 hb hN
  go_enter Try.func29, Try.ntmps29
  obtain ⟨g, hg⟩ : ∃ g, g = w.heap.size := ⟨_, rfl⟩
  rw [← hg] at hbk
  go_upto_region 1 with fail
  rw [← hg]
  generalize w.alloc (.cells #[.bool p, .bool r, .int .i64 a, .int .i64 b, .int .i64 q, .slice A xs.length c] 39) = w1 at *
  have hz5 : w1.cell? ⟨g, 5, none⟩ = some (.slice A xs.length c) := (blk_cell hbk 5).trans rfl
  have hB1 : Below w0.heap.size w0 w1 := HW.out.1.trans (hbw.mono HW.out.1.size)
  have h65 := laws_markRecordS.calls kk N ok (.slice A xs.length c) xs k0 w0 w1 hB1 (Kd.S_below HW.out.2.1 hbw) HW.out.2.2.1 HW.out.2.2.2.1 HW.out.2.2.2.2.1 HW.out.2.2.2.2.2
  have HK := Aside0.mk (Kept.of_below hbw ok)
  clear hbk hbw hB1 hg
  go_wp2_with (go_at_call 65; refine h65.mono ?_; rintro e w2 ⟨rfl, hS2, hB2, hK2⟩; have H2 := Aside0.mk (And.intro hS2 (And.intro hB2 hK2)); clear hS2 hB2 hK2 h65)
  go_ret
  exact ⟨rfl, H2.out.1, H2.out.2.1, Kept.then_ HK.out H2.out.2.2 (fun _ h => .inl h)⟩

theorem blk_new (w : World) (cs : Array Value) (t : TypeId) : (w.alloc (.cells cs t)).heap[w.heap.size]? = some (.cells cs t (0, 0)) := by
  show (w.heap.push _)[w.heap.size]? = _
  simp
theorem blk_b {w w1 : World} {g : Nat} {o : Obj} (h : w.heap[g]? = some o) (hb : Below w.heap.size w w1) : w1.heap[g]? = some o := (hb.block g (Array.getElem?_eq_some_iff.1 h).1).trans h
theorem blw_new (w : World) (o : Obj) : Below w.heap.size w (w.alloc o) := below_alloc (Below.refl _ _) o
theorem blw_t {a b c : World} (h : Below a.heap.size a b) (k : Below b.heap.size b c) : Below a.heap.size a c := h.trans (k.mono h.size)
theorem c26s {w : World} {A : Option Addr} {n : Nat} {xs : List S26} (h : Kd.C k26s w A n xs) : Kd.C k26 w A n xs := h
theorem c57s {w : World} {A : Option Addr} {n : Nat} {xs : List S57} (h : Kd.C k57s w A n xs) : Kd.C k57 w A n xs := h
def iv (a b k : Nat) : Prop := a ≤ k ∧ k < b
/-- What the law's calls tell: numbers and lists alone. -/
structure laws_FnExactOldTurn.Facts (l0 : List S50) (pk : Bool) (k kk N : Nat) (ys : List S26) (r1 r2 : Bool) (r3 r4 r5 : Int) (r6 : List S57) (r7 : Bool) : Prop where
  old : laws_toOldS.f k l0 = some ys
  imp : impl_OldTurn.f k ys pk = some (r1, r2, r3, r4, r5, r6, r7)
  spec : spec_OldTurn.f k ys pk = some (r1, r2, r3, r4, r5, r6, r7)
  same : laws_eqBatch.f k r1 r2 r3 r4 r5 r6 r1 r2 r3 r4 r5 r6 = some true
  eqo : laws_eqOldS.f k ys ys = some true
  mark : MarksOk kk N
  yN : totO ys ≤ (N : Int) ∧ 1 + totO ys ≤ 4611686018427387000
  rN : totR r6 ≤ (N : Int) ∧ 1 + totR r6 ≤ 4611686018427387000
  held : laws_heldBatch.f k r1 r2 r3 r4 r5 (mkLR r6 1) 1 = some (1 + totR r6)
/-- The heap's parts through the law: the spec's rows, the answer's rows and the input's copy, each in its own blocks. -/
structure St (w : World) (a1 a2 gs a3 a4 a5 a6 gi : Nat) (vs vi vx : Value) (bS bI : Array Value) (r6 L : List S57) (l : List S26) (W : World) : Prop where
  bl : Below w.heap.size w W
  s : Kd.S k57 57 W w.heap.size (iv a1 a2) vs r6
  bs : W.heap[gs]? = some (.cells bS 39 (0, 0))
  i : Kd.S k57s 57 W w.heap.size (iv a5 a6) vi L
  bi : W.heap[gi]? = some (.cells bI 39 (0, 0))
  x : Kd.S k26s 26 W w.heap.size (iv a3 a4) vx l
  o1 : a2 ≤ gs
  o2 : gs < a3
  o3 : a4 ≤ a5
  o4 : a6 ≤ gi
  o5 : a3 ≤ a4
  o6 : a5 ≤ a6
section
variable {w W W' : World} {a1 a2 gs a3 a4 a5 a6 gi : Nat} {vs vi vx : Value} {bS bI : Array Value} {r6 L L' : List S57} {l l' : List S26}
theorem St.below (h : St w a1 a2 gs a3 a4 a5 a6 gi vs vi vx bS bI r6 L l W) (hb : Below W.heap.size W W') : St w a1 a2 gs a3 a4 a5 a6 gi vs vi vx bS bI r6 L l W' :=
  ⟨blw_t h.bl hb, Kd.S_below h.s hb, blk_b h.bs hb, Kd.S_below h.i hb, blk_b h.bi hb, Kd.S_below h.x hb, h.o1, h.o2, h.o3, h.o4, h.o5, h.o6⟩
theorem kept_blk {P : Nat → Prop} {g : Nat} {o : Obj} (hk : Kept W W' P) (h : W.heap[g]? = some o) (hn : ¬ P g) : W'.heap[g]? = some o := (hk.2 g (Array.getElem?_eq_some_iff.1 h).1 hn).trans h
theorem St.markX (h : St w a1 a2 gs a3 a4 a5 a6 gi vs vi vx bS bI r6 L l W) (hS : Kd.S k26s 26 W' w.heap.size (iv a3 a4) vx l') (hb : Below w.heap.size w W') (hk : Kept W W' (iv a3 a4)) : St w a1 a2 gs a3 a4 a5 a6 gi vs vi vx bS bI r6 L l' W' := by
  have := h.o1; have := h.o2; have := h.o3; have := h.o4; have := h.o5; have := h.o6
  exact ⟨hb, Kd.S_step h.s (fun k h1 hlt => hk.2 k hlt (fun h2 => by unfold iv at h1 h2; omega)), kept_blk hk h.bs (fun h2 => by unfold iv at h2; omega), Kd.S_step h.i (fun k h1 hlt => hk.2 k hlt (fun h2 => by unfold iv at h1 h2; omega)), kept_blk hk h.bi (fun h2 => by unfold iv at h2; omega), hS, h.o1, h.o2, h.o3, h.o4, h.o5, h.o6⟩
theorem St.markI (h : St w a1 a2 gs a3 a4 a5 a6 gi vs vi vx bS bI r6 L l W) (hS : Kd.S k57s 57 W' w.heap.size (iv a5 a6) vi L') (hb : Below w.heap.size w W') (hk : Kept W W' (iv a5 a6)) : St w a1 a2 gs a3 a4 a5 a6 gi vs vi vx bS bI r6 L' l W' := by
  have := h.o1; have := h.o2; have := h.o3; have := h.o4; have := h.o5; have := h.o6
  exact ⟨hb, Kd.S_step h.s (fun k h1 hlt => hk.2 k hlt (fun h2 => by unfold iv at h1 h2; omega)), kept_blk hk h.bs (fun h2 => by unfold iv at h2; omega), hS, kept_blk hk h.bi (fun h2 => by unfold iv at h2; omega), Kd.S_step h.x (fun k h1 hlt => hk.2 k hlt (fun h2 => by unfold iv at h1 h2; omega)), h.o1, h.o2, h.o3, h.o4, h.o5, h.o6⟩
theorem S_iv {α : Type} {d : Kd α} {e base n : Nat} {ok : Nat → Prop} {v : Value} {xs : List α} (h : Kd.S d e W base ok v xs) (hl : n ≤ base) : Kd.S d e W n (iv base W.heap.size) v xs := Kd.S_lower (Kd.S_mono (Kd.S_bound h) (fun _ hk => ⟨hk.2.1, hk.2.2.1⟩)) hl
theorem cells39 {g : Nat} {p q : Bool} {a b c : Int} {v : Value} (h : W.heap[g]? = some (.cells #[.bool p, .bool q, .int .i64 a, .int .i64 b, .int .i64 c, v] 39 (0, 0))) : W.cell? ⟨g, 0, none⟩ = some (.bool p) ∧ W.cell? ⟨g, 1, none⟩ = some (.bool q) ∧ W.cell? ⟨g, 2, none⟩ = some (.int .i64 a) ∧ W.cell? ⟨g, 3, none⟩ = some (.int .i64 b) ∧ W.cell? ⟨g, 4, none⟩ = some (.int .i64 c) ∧ W.cell? ⟨g, 5, none⟩ = some v :=
  ⟨(blk_cell h 0).trans rfl, (blk_cell h 1).trans rfl, (blk_cell h 2).trans rfl, (blk_cell h 3).trans rfl, (blk_cell h 4).trans rfl, (blk_cell h 5).trans rfl⟩
end
set_option maxHeartbeats 4000000 in
set_option maxRecDepth 100000 in
theorem laws_FnExactOldTurn.long (k : Nat) (pk : Bool) (A0 : Option Addr) (c0 : Nat) (l0 : List S50) (w : World) (hr0 : Kd.C k50 w A0 l0.length l0) (hc0 : l0.length ≤ c0) (s : Int) (hs : laws_szOldS.f k l0 1048576 = some s) (h : s < 0) :
    Calls Try.prog 5 #[.slice A0 l0.length c0, .bool pk] w fun e w' => e = .returned (.bool true) ∧ Below w.heap.size w w' := by
  have h22 := laws_szOldS.calls k A0 c0 l0 1048576 s w hr0 hc0 hs
  have d1 : decide (s < 0) = true := decide_eq_true h
  clear hr0 hc0 hs h
  go_enter Try.func5, Try.ntmps5
  go_wp2_with (go_at_call 22; refine h22.mono ?_; rintro e w1 ⟨rfl, hb⟩; have HB := Aside0.mk hb; clear hb h22)
  go_ret
  exact ⟨rfl, HB.out⟩
set_option maxHeartbeats 8000000 in
set_option maxRecDepth 100000 in
theorem laws_FnExactOldTurn.calls (k kk N : Nat) (pk : Bool) (A0 : Option Addr) (c0 : Nat) (l0 : List S50) (w : World) (hr0 : Kd.C k50 w A0 l0.length l0) (hc0 : l0.length ≤ c0) (s : Int) (hs : laws_szOldS.f k l0 1048576 = some s) (h : ¬ s < 0)
    (ys : List S26) (r1 r2 : Bool) (r3 r4 r5 : Int) (r6 : List S57) (r7 : Bool) (F : laws_FnExactOldTurn.Facts l0 pk k kk N ys r1 r2 r3 r4 r5 r6 r7) :
    Calls Try.prog 5 #[.slice A0 l0.length c0, .bool pk] w fun e w' => e = .returned (.bool true) ∧ Below w.heap.size w w' := by
  have h22 := laws_szOldS.calls k A0 c0 l0 1048576 s w hr0 hc0 hs
  have d1 : decide (s < 0) = false := decide_eq_false h
  have FF := Aside0.mk F
  have HC := Aside0.mk (And.intro hr0 hc0)
  clear hr0 hc0 hs h F
  have hu39 := Try.underlying39
  have hrr : (r7 != r7) = false := by cases r7 <;> rfl
  go_enter Try.func5, Try.ntmps5
  go_upto_region 5 with (go_at_call 22; refine h22.mono ?_; rintro e w1 ⟨rfl, hb⟩; have HB1 := Aside0.mk hb; clear hb h22)
  clear d1
  have h24 := laws_toOldS.calls k A0 c0 l0 ys w1 (Kd.C_below HC.out.1 HB1.out) HC.out.2 FF.out.old
  go_upto_region 6 with (first | (go_at_call 24; (with_reducible refine h24.mono ?_); rintro e w2 ⟨v, rfl, hS, hb⟩; (obtain ⟨A1, c1, rfl⟩ := Kd.S_slice hS); have h23 := spec_OldTurn.calls k A1 c1 ys pk r1 r2 r3 r4 r5 r6 r7 w2 (c26s (Kd.S_reads' hS).2.2) (Kd.S_reads' hS).2.1 FF.out.spec; have HB2 := Aside0.mk hb; clear hS hb h24) | (go_at_call 23; (with_reducible refine h23.mono ?_); rintro e w3 ⟨v, rfl, hS, hb⟩; (obtain ⟨As, cs_, rfl⟩ := Kd.S_slice hS); have HS3 := Aside0.mk (And.intro hS hb); clear hS hb h23))
  have hbk : (w3.alloc (.cells #[.bool r1, .bool r2, .int .i64 r3, .int .i64 r4, .int .i64 r5, .slice As r6.length cs_] 39)).heap[w3.heap.size]? = some (.cells #[.bool r1, .bool r2, .int .i64 r3, .int .i64 r4, .int .i64 r5, .slice As r6.length cs_] 39 (0, 0)) := blk_new _ _ _
  have hbw := blw_new w3 (.cells #[.bool r1, .bool r2, .int .i64 r3, .int .i64 r4, .int .i64 r5, .slice As r6.length cs_] 39)
  obtain ⟨gs, hgs⟩ : ∃ g, g = w3.heap.size := ⟨_, rfl⟩
  rw [← hgs] at hbk
  rw [← hgs]
  generalize w3.alloc (.cells #[.bool r1, .bool r2, .int .i64 r3, .int .i64 r4, .int .i64 r5, .slice As r6.length cs_] 39) = w4 at *
  have H4 := Aside0.mk (And.intro hbk (And.intro hbw hgs))
  clear hbk hbw hgs
  have HB4 := Aside0.mk (blw_t (blw_t HB1.out HB2.out) (blw_t HS3.out.2 H4.out.2.1))
  have h24 := laws_toOldS.calls k A0 c0 l0 ys w4 (Kd.C_below HC.out.1 HB4.out) HC.out.2 FF.out.old
  go_upto_region 7 with (go_at_call 24; (with_reducible refine h24.mono ?_); rintro e w5 ⟨v, rfl, hS, hb⟩; (obtain ⟨Ax, cx, rfl⟩ := Kd.S_slice hS); have HS5 := Aside0.mk (And.intro hS hb); clear hS hb h24)
  have h25 := impl_OldTurn.calls k Ax cx ys pk r1 r2 r3 r4 r5 r6 r7 w5 (c26s (Kd.S_reads' HS5.out.1).2.2) (Kd.S_reads' HS5.out.1).2.1 FF.out.imp
  go_upto_region 8 with (go_at_call 25; (with_reducible refine h25.mono ?_); rintro e w6 ⟨v, rfl, hS, hb⟩; (obtain ⟨Ai, ci, rfl⟩ := Kd.S_slice hS); have HS6 := Aside0.mk (And.intro hS hb); clear hS hb h25)
  have hbk : (w6.alloc (.cells #[.bool r1, .bool r2, .int .i64 r3, .int .i64 r4, .int .i64 r5, .slice Ai r6.length ci] 39)).heap[w6.heap.size]? = some (.cells #[.bool r1, .bool r2, .int .i64 r3, .int .i64 r4, .int .i64 r5, .slice Ai r6.length ci] 39 (0, 0)) := blk_new _ _ _
  have hbw := blw_new w6 (.cells #[.bool r1, .bool r2, .int .i64 r3, .int .i64 r4, .int .i64 r5, .slice Ai r6.length ci] 39)
  obtain ⟨gi, hgi⟩ : ∃ g, g = w6.heap.size := ⟨_, rfl⟩
  rw [← hgi] at hbk
  rw [← hgi]
  generalize w6.alloc (.cells #[.bool r1, .bool r2, .int .i64 r3, .int .i64 r4, .int .i64 r5, .slice Ai r6.length ci] 39) = w7 at *
  have hS7 : St w w2.heap.size w3.heap.size gs w4.heap.size w5.heap.size w5.heap.size w6.heap.size gi (.slice As r6.length cs_) (.slice Ai r6.length ci) (.slice Ax ys.length cx) #[.bool r1, .bool r2, .int .i64 r3, .int .i64 r4, .int .i64 r5, .slice As r6.length cs_] #[.bool r1, .bool r2, .int .i64 r3, .int .i64 r4, .int .i64 r5, .slice Ai r6.length ci] r6 r6 ys w7 := by
    have b27 := blw_t HS6.out.2 hbw
    have b47 := blw_t HS5.out.2 b27
    have b37 := blw_t H4.out.2.1 b47
    have s1 := HB4.out.size
    have s2 := (blw_t HB1.out HB2.out).size
    have s4 : w4.heap.size = w3.heap.size + 1 ∨ w3.heap.size < w4.heap.size := by
      have := (Array.getElem?_eq_some_iff.1 H4.out.1).1
      have := H4.out.2.2
      omega
    have h5 := HS5.out.2.size
    have h6 := HS6.out.2.size
    have hg := H4.out.2.2
    exact ⟨blw_t HB4.out b47, Kd.S_below (S_iv HS3.out.1 s2) b37, blk_b H4.out.1 b47, Kd.S_below (S_iv HS6.out.1 (by omega)) hbw, hbk, Kd.S_below (S_iv HS5.out.1 s1) b27, by omega, by omega, Nat.le_refl _, by omega, h5, h6⟩
  have HT7 := Aside0.mk hS7
  clear hbk hbw hgi hS7 HS3 H4 HS5 HS6 HB4 HB1 HB2
  generalize w2.heap.size = a1 at *
  generalize w3.heap.size = a2 at *
  generalize w4.heap.size = a3 at *
  generalize w5.heap.size = a4 at *
  generalize w6.heap.size = a6 at *
  obtain ⟨hz0, hz1, hz2, hz3, hz4, hz5⟩ := cells39 HT7.out.bi
  obtain ⟨hy0, hy1, hy2, hy3, hy4, hy5⟩ := cells39 HT7.out.bs
  have h26 := laws_eqBatch.calls k r1 r2 r3 r4 r5 Ai ci r6 r1 r2 r3 r4 r5 As cs_ r6 true w7 (c57s (Kd.S_reads' HT7.out.i).2.2) (Kd.S_reads' HT7.out.i).2.1 (Kd.S_reads' HT7.out.s).2.2 (Kd.S_reads' HT7.out.s).2.1 FF.out.same
  go_upto_region 10 with (go_at_call 26; (with_reducible refine h26.mono ?_); rintro e w8 ⟨rfl, hb⟩; have HT8 := Aside0.mk (HT7.out.below hb); clear hb h26)
  clear hz0 hz1 hz2 hz3 hz4 hz5 hy0 hy1 hy2 hy3 hy4 hy5
  have h24 := laws_toOldS.calls k A0 c0 l0 ys w8 (Kd.C_below HC.out.1 HT8.out.bl) HC.out.2 FF.out.old
  go_upto_region 13 with (first | (go_at_call 24; (with_reducible refine h24.mono ?_); rintro e w9 ⟨v, rfl, hS, hb⟩; (obtain ⟨A2, c2, rfl⟩ := Kd.S_slice hS); have HT9 := Aside0.mk (HT8.out.below hb); have h27 := laws_eqOldS.calls k Ax cx ys A2 c2 ys true w9 (c26s (Kd.S_reads' HT9.out.x).2.2) (Kd.S_reads' HT9.out.x).2.1 (c26s (Kd.S_reads' hS).2.2) (Kd.S_reads' hS).2.1 FF.out.eqo; clear hS hb h24) | (go_at_call 27; (with_reducible refine h27.mono ?_); rintro e w10 ⟨rfl, hb⟩; have HT10 := Aside0.mk (HT9.out.below hb); clear hb h27))
  have h28 := laws_markOldS.calls kk N _ _ ys 1 w w10 HT10.out.bl HT10.out.x FF.out.mark (by decide) FF.out.yN.2 FF.out.yN.1
  obtain ⟨Q, hQ⟩ : ∃ Q, Q = 1 + totO ys := ⟨_, rfl⟩
  rw [← hQ] at h28
  have hQ0 : decide (Q < 0) = false := decide_eq_false (by have := totO_len ys; omega)
  clear hQ
  go_upto_region 14 with (go_at_call 28; (with_reducible refine h28.mono ?_); rintro e w11 ⟨rfl, hS, hb, hk⟩; have HT11 := Aside0.mk (HT10.out.markX hS hb hk); clear hS hb hk h28)
  obtain ⟨hz0, hz1, hz2, hz3, hz4, hz5⟩ := cells39 HT11.out.bi
  obtain ⟨hy0, hy1, hy2, hy3, hy4, hy5⟩ := cells39 HT11.out.bs
  have h26 := laws_eqBatch.calls k r1 r2 r3 r4 r5 Ai ci r6 r1 r2 r3 r4 r5 As cs_ r6 true w11 (c57s (Kd.S_reads' HT11.out.i).2.2) (Kd.S_reads' HT11.out.i).2.1 (Kd.S_reads' HT11.out.s).2.2 (Kd.S_reads' HT11.out.s).2.1 FF.out.same
  go_upto_region 17 with (go_at_call 26; (with_reducible refine h26.mono ?_); rintro e w12 ⟨rfl, hb⟩; have HT12 := Aside0.mk (HT11.out.below hb); clear hb h26)
  clear hz0 hz1 hz2 hz3 hz4 hz5 hy0 hy1 hy2 hy3 hy4 hy5
  clear hQ0
  obtain ⟨hz0, hz1, hz2, hz3, hz4, hz5⟩ := cells39 HT12.out.bi
  have h29 := laws_markBatch.calls kk N _ Ai ci r1 r2 r3 r4 r5 r6 1 w w12 HT12.out.bl HT12.out.i FF.out.mark (by decide) FF.out.rN.2 FF.out.rN.1
  obtain ⟨M, hM⟩ : ∃ M, M = 1 + totR r6 := ⟨_, rfl⟩
  rw [← hM] at h29
  have hM0 : decide (M < 0) = false := decide_eq_false (by have := totR_len r6; omega)
  have hMM : (M != M) = false := by simp
  have hME : (M == M) = true := by simp
  have hHL : laws_heldBatch.f k r1 r2 r3 r4 r5 (mkLR r6 1) 1 = some M := by rw [hM]; exact FF.out.held
  have HHL := Aside0.mk hHL
  clear hM hHL
  go_upto_region 19 with (go_at_call 29; (with_reducible refine h29.mono ?_); rintro e w13 ⟨rfl, hS, hb, hk⟩; have HT13 := Aside0.mk (HT12.out.markI hS hb hk); clear hS hb hk h29)
  clear hz0 hz1 hz2 hz3 hz4 hz5
  obtain ⟨hz0, hz1, hz2, hz3, hz4, hz5⟩ := cells39 HT13.out.bi
  have h30 := laws_heldBatch.calls k r1 r2 r3 r4 r5 Ai ci (mkLR r6 1) 1 M w13 (by have h := Kd.S_reads' HT13.out.i; exact c57s h.2.2) (by have h := Kd.S_reads' HT13.out.i; rw [← h.1]; exact h.2.1) HHL.out
  rw [mkLR_len] at h30
  go_upto_region 24 with (go_at_call 30; (with_reducible refine h30.mono ?_); rintro e w14 ⟨rfl, hb⟩; have HT14 := Aside0.mk (HT13.out.below hb); clear hb h30)
  clear hz0 hz1 hz2 hz3 hz4 hz5
  have h24 := laws_toOldS.calls k A0 c0 l0 ys w14 (Kd.C_below HC.out.1 HT14.out.bl) HC.out.2 FF.out.old
  go_upto_region 25 with (first | (go_at_call 24; (with_reducible refine h24.mono ?_); rintro e w15 ⟨v, rfl, hS, hb⟩; (obtain ⟨A3, c3, rfl⟩ := Kd.S_slice hS); have HT15 := Aside0.mk (HT14.out.below hb); have h25 := impl_OldTurn.calls k A3 c3 ys pk r1 r2 r3 r4 r5 r6 r7 w15 (c26s (Kd.S_reads' hS).2.2) (Kd.S_reads' hS).2.1 FF.out.imp; clear hS hb h24) | (go_at_call 25; (with_reducible refine h25.mono ?_); rintro e w16 ⟨v, rfl, hS, hb⟩; (obtain ⟨Ah, ch, rfl⟩ := Kd.S_slice hS); have HT16 := Aside0.mk (HT15.out.below hb); have HS16 := Aside0.mk (Kd.S_reads' hS).2; clear hS hb h25))
  have hbk : (w16.alloc (.cells #[.bool r1, .bool r2, .int .i64 r3, .int .i64 r4, .int .i64 r5, .slice Ah r6.length ch] 39)).heap[w16.heap.size]? = some (.cells #[.bool r1, .bool r2, .int .i64 r3, .int .i64 r4, .int .i64 r5, .slice Ah r6.length ch] 39 (0, 0)) := blk_new _ _ _
  have hbw := blw_new w16 (.cells #[.bool r1, .bool r2, .int .i64 r3, .int .i64 r4, .int .i64 r5, .slice Ah r6.length ch] 39)
  obtain ⟨gh, hgh⟩ : ∃ g, g = w16.heap.size := ⟨_, rfl⟩
  rw [← hgh] at hbk
  rw [← hgh]
  generalize w16.alloc (.cells #[.bool r1, .bool r2, .int .i64 r3, .int .i64 r4, .int .i64 r5, .slice Ah r6.length ch] 39) = w17 at *
  have HT17 := Aside0.mk (HT16.out.below hbw)
  obtain ⟨hz0, hz1, hz2, hz3, hz4, hz5⟩ := cells39 hbk
  have h26 := laws_eqBatch.calls k r1 r2 r3 r4 r5 Ah ch r6 r1 r2 r3 r4 r5 As cs_ r6 true w17 (c57s (Kd.C_below HS16.out.2 hbw)) HS16.out.1 (Kd.S_reads' HT17.out.s).2.2 (Kd.S_reads' HT17.out.s).2.1 FF.out.same
  clear hbk hbw hgh
  obtain ⟨hy0, hy1, hy2, hy3, hy4, hy5⟩ := cells39 HT17.out.bs
  go_upto_region 28 with (go_at_call 26; (with_reducible refine h26.mono ?_); rintro e w18 ⟨rfl, hb⟩; have HT18 := Aside0.mk (HT17.out.below hb); clear hb h26)
  clear hz0 hz1 hz2 hz3 hz4 hz5 hy0 hy1 hy2 hy3 hy4 hy5
  obtain ⟨hz0, hz1, hz2, hz3, hz4, hz5⟩ := cells39 HT18.out.bi
  have h30 := laws_heldBatch.calls k r1 r2 r3 r4 r5 Ai ci (mkLR r6 1) 1 M w18 (by have h := Kd.S_reads' HT18.out.i; exact c57s h.2.2) (by have h := Kd.S_reads' HT18.out.i; rw [← h.1]; exact h.2.1) HHL.out
  rw [mkLR_len] at h30
  go_wp2_with (go_at_call 30; (with_reducible refine h30.mono ?_); rintro e w19 ⟨rfl, hb⟩; have HT19 := Aside0.mk (HT18.out.below hb); clear hb h30)
  go_ret
  exact ⟨rfl, HT19.out.bl⟩
def laws_FnExactOldTurn.Pure : Prop := ∀ (pk : Bool) (l0 : List S50), l0.length ≤ maxLen → (∀ x ∈ l0, x.f3.length ≤ maxLen ∧ x.f4.length ≤ maxLen) → ∃ k s, laws_szOldS.f k l0 1048576 = some s ∧ (¬ s < 0 → ∃ kk N ys r1 r2 r3 r4 r5 r6 r7, laws_FnExactOldTurn.Facts l0 pk k kk N ys r1 r2 r3 r4 r5 r6 r7)
theorem laws_FnExactOldTurn.walk_ (P : laws_FnExactOldTurn.Pure) (pk : Bool) (A0 : Option Addr) (c0 : Nat) (l0 : List S50) (w : World) (hr0 : Kd.C k50 w A0 l0.length l0) (hc0 : l0.length ≤ c0) (hl : l0.length ≤ maxLen) (hm : ∀ x ∈ l0, x.f3.length ≤ maxLen ∧ x.f4.length ≤ maxLen) :
    Calls Try.prog 5 #[.slice A0 l0.length c0, .bool pk] w fun e w' => e = .returned (.bool true) ∧ Below w.heap.size w w' := by
  obtain ⟨k, s, hs, hf⟩ := P pk l0 hl hm
  by_cases h : s < 0
  · exact laws_FnExactOldTurn.long k pk A0 c0 l0 w hr0 hc0 s hs h
  · obtain ⟨kk, N, ys, r1, r2, r3, r4, r5, r6, r7, F⟩ := hf h
    exact laws_FnExactOldTurn.calls k kk N pk A0 c0 l0 w hr0 hc0 s hs h ys r1 r2 r3 r4 r5 r6 r7 F
end Go.Proofs.Ytmpnedpokdaejaa.QFnExactOldTurn
