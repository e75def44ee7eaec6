import Derived.Test.YtjbgbnngfbhmjaaPkQ
namespace Go.Proofs.Ytjbgbnngfbhmjaa.Pk
open Go.RowKit Go.Shelf Go.Proofs.YtjbgbnngfbhmjaaW.PrintWords Go.Proofs.YtjbgbnngfbhmjaaW.PrintLast Go.Proofs.YtjbgbnngfbhmjaaW.PrintMore
set_option linter.unusedVariables false
set_option linter.unusedSimpArgs false
attribute [local go_sem] Oper.semAt_some
/-- How many bytes are as those at another place, from so many on. -/
def mlenF (xs : List Int) (a fr : Int) : Nat → Int → Int
  | 0, n => n
  | f + 1, n => if n < 66 ∧ a + n < (xs.length : Int) ∧ rd xs (fr + n) = rd xs (a + n) then mlenF xs a fr f (n + 1) else n
def mlen (xs : List Int) (a fr : Int) : Int := mlenF xs a fr 67 0
/-- The longest match among places, nearest first. -/
def matchP (xs : List Int) (a : Int) : List Int → Int × Int → Int × Int
  | [], r => r
  | fr :: fs, r => if a - fr > 200 then r else if mlen xs a fr > r.1 then matchP xs a fs (mlen xs a fr, a - fr) else matchP xs a fs r
/-- What the two results' boxes hold when these places have been looked at. -/
def MatchI (l0 : List Int) (a : Int) (b : Nat) (pre : List Int) (W : World) : Prop := ∃ lg bk : Int, Boxed W (b + 1 + 1) 3 (.int .i64 lg) ∧ Boxed W (b + 1 + 1 + 1) 3 (.int .i64 bk) ∧ ∀ rest, matchP l0 a (pre ++ rest) (0, 0) = matchP l0 a rest (lg, bk)
/-- .. and there has been enough of it. -/
def MatchX (l0 : List Int) (a : Int) (b : Nat) (pre : List Int) (W : World) : Prop := ∃ lg bk : Int, Boxed W (b + 1 + 1) 3 (.int .i64 lg) ∧ Boxed W (b + 1 + 1 + 1) 3 (.int .i64 bk) ∧ ∀ rest, matchP l0 a (pre ++ rest) (0, 0) = (lg, bk)
theorem mlenF_stop (xs : List Int) (a fr : Int) (f : Nat) (n : Int) (h : ¬ (n < 66 ∧ a + n < (xs.length : Int) ∧ rd xs (fr + n) = rd xs (a + n))) : mlenF xs a fr f n = n := by
  cases f with
  | zero => rfl
  | succ f => simp only [mlenF]; rw [if_neg h]
theorem back_stopsQ (Q : Int × Int → Prop) (F : Fence) (n : Nat) (h47 : F.fn 47) (hro : F.round = none) (hn : 1 ≤ n) (Bs : Nat) (A : Option Addr) (c : Nat) (zs : List Int) (hq : ∀ j, j < zs.length → Q (backF zs j)) (hlen : zs.length ≤ 1000000) (w0 w : World) (hC : Kd.C (Kd.int .i64) w0 A zs.length zs) (hb : Below w0.heap.size w0 w) (hBs : Bs < w.heap.size)
    (hc : w.cell? ⟨Bs, 0, none⟩ = some (.slice A zs.length c)) :
    SeqStopsK F n Try.prog 47 #[.pointer (some ⟨Bs, 0, none⟩)] (fun x : { x : Int × Int // Q x } => #[Value.int .i64 x.1.1, Value.int .i64 x.1.2]) (KpB w0.heap.size Bs) (fun ys => ys.map (·.1) = upto (backF zs) zs.length)
      (fun pre => ∃ k, k ≤ zs.length ∧ pre.map (·.1) = upto (backF zs) k) zs.length w := fun l J Jx W hW _ _ hY h0 => by
  refine (back1_in F n h47 hro hn l Bs A c zs hlen w0 hC (fun pre W => ∃ pre' : List { x : Int × Int // Q x }, pre'.map (·.1) = pre ∧ J pre' W) (fun pre W => ∃ pre' : List { x : Int × Int // Q x }, pre'.map (·.1) = pre ∧ Jx pre' W) Q hq ?_ W ((hW.cell (p := ⟨Bs, 0, none⟩) hBs).trans hc) (hb.trans (hW.mono hb.size)) ⟨[], rfl, h0⟩).mono ?_
  · rintro pre x W1 ⟨pre', rfl, hJ⟩ hlt hx
    refine (hY pre' ⟨x, hx⟩ W1 hJ (by simpa using hlt)).mono ?_
    rintro e W' (⟨he, hj, hk⟩ | ⟨he, hj⟩)
    · exact .inl ⟨he, ⟨pre' ++ [⟨x, hx⟩], by simp, hj⟩, hk⟩
    · exact .inr ⟨he, ⟨pre' ++ [⟨x, hx⟩], by simp, hj⟩⟩
  · rintro e W' ⟨he, ⟨ys, rfl, ys', h1, h2⟩ | ⟨pre, ⟨k, hk, rfl⟩, pre', h1, h2⟩⟩
    · exact ⟨he, .inl ⟨ys', h1, h2⟩⟩
    · exact ⟨he, .inr ⟨pre', ⟨k, hk, h1⟩, h2⟩⟩
theorem backF_snd (zs : List Int) (k : Nat) (hk : k ≤ zs.length) : (upto (backF zs) k).map (·.2) = zs.reverse.take k := by
  refine List.ext_getElem (by simp [upto]; omega) fun i h1 h2 => ?_
  have h3 : i < k := by simpa [upto] using h1
  have hi : zs.length - 1 - i < zs.length := by omega
  simp only [upto, List.getElem_map, List.getElem_range, List.getElem_take, List.getElem_reverse, backF]
  unfold rd
  simp [List.getD_eq_getElem?_getD, hi]
theorem boxed_keep {W W' : World} {row : Option Nat} {B : Nat} {t : TypeId} {v : Value} (h : Boxed W B t v) (hg : W.grownBy W' row) (hr : ∀ r, row = some r → ∃ o : Obj, W.heap[r]? = some o ∧ o.isCells = false) : Boxed W' B t v :=
  h.kept hg (fun e' => by obtain ⟨o, ho, hc⟩ := hr B e'.symm; rw [show W.heap[B]? = _ from h] at ho; cases ho; cases hc)
theorem boxed_drawn {W W' : World} {B : Nat} {t : TypeId} {v : Value} (h : Boxed W B t v) (hd : Drawn0 W W') : Boxed W' B t v := by
  obtain ⟨m, rfl⟩ := hd
  exact h
theorem keeps_drawn {W W' : World} (hd : Drawn0 W W') : KeepsOthers W W' := by
  obtain ⟨m, rfl⟩ := hd
  exact ⟨Nat.le_refl _, fun _ _ h _ => h⟩
theorem below_drawn {n : Nat} {w0 W W' : World} (h : Below n w0 W) (hd : Drawn0 W W') : Below n w0 W' := by
  obtain ⟨m, rfl⟩ := hd
  exact pw_below_drewN h m
theorem kpb_drawn {n Bs : Nat} {W W' : World} (hd : Drawn0 W W') : KpB n Bs W W' := by
  obtain ⟨m, rfl⟩ := hd
  exact ⟨pw_below_drewN (Below.refl _ _) m, fun v hv => hv⟩
theorem kpb_set {n Bs b : Nat} {W : World} (hn : n ≤ b) (hb : b ≠ Bs) (v : Value) : KpB n Bs W (W.setCell ⟨b, 0, none⟩ v) :=
  ⟨(Below.refl n W).setCell (p := ⟨b, 0, none⟩) hn v, fun u hu => by
    rw [← hu]
    have e : (W.setCell ⟨b, 0, none⟩ v).heap[Bs]? = W.heap[Bs]? := Below.heap_setCell W ⟨b, 0, none⟩ v Bs hb.symm
    simp only [World.cell?, e]⟩
theorem match_store {W w : World} {b B : Nat} {v0 v1 u2 u3 : Value} (v2 v3 : Value) (hB : b + 1 + 1 + 1 + 1 ≤ B) (hw : w.heap.size ≤ b) (hb : Below w.heap.size w W)
    (y0 : Boxed W b 22 v0) (y1 : Boxed W (b + 1) 3 v1) (y2 : Boxed W (b + 1 + 1) 3 u2) (y3 : Boxed W (b + 1 + 1 + 1) 3 u3) :
    ∃ W3, W3 = ((W.setCell ⟨b + 1 + 1, 0, none⟩ v2).setCell ⟨b + 1 + 1 + 1, 0, none⟩ v3).drew ∧ KeepsFrom B W W3 ∧ KpB w.heap.size (b + 1 + 1 + 1 + 1) W W3 ∧ Boxed W3 b 22 v0 ∧ Boxed W3 (b + 1) 3 v1 ∧ Boxed W3 (b + 1 + 1) 3 v2 ∧ Boxed W3 (b + 1 + 1 + 1) 3 v3 ∧ Below w.heap.size w W3 := by
  refine ⟨_, rfl, ?_⟩
  have hd : Drawn0 ((W.setCell ⟨b + 1 + 1, 0, none⟩ v2).setCell ⟨b + 1 + 1 + 1, 0, none⟩ v3) ((W.setCell ⟨b + 1 + 1, 0, none⟩ v2).setCell ⟨b + 1 + 1 + 1, 0, none⟩ v3).drew := ⟨1, rfl⟩
  have k1 : KeepsFrom B W (W.setCell ⟨b + 1 + 1, 0, none⟩ v2) := KeepsFrom.of_grownBy (grownBy_setCell' W (b + 1 + 1) v2) (fun j hj => by cases hj; omega)
  have k2 : KeepsFrom B (W.setCell ⟨b + 1 + 1, 0, none⟩ v2) ((W.setCell ⟨b + 1 + 1, 0, none⟩ v2).setCell ⟨b + 1 + 1 + 1, 0, none⟩ v3) := KeepsFrom.of_grownBy (grownBy_setCell' _ (b + 1 + 1 + 1) v3) (fun j hj => by cases hj; omega)
  have p1 : KpB w.heap.size (b + 1 + 1 + 1 + 1) W (W.setCell ⟨b + 1 + 1, 0, none⟩ v2) := kpb_set (by omega) (by omega) v2
  have p2 : KpB w.heap.size (b + 1 + 1 + 1 + 1) (W.setCell ⟨b + 1 + 1, 0, none⟩ v2) ((W.setCell ⟨b + 1 + 1, 0, none⟩ v2).setCell ⟨b + 1 + 1 + 1, 0, none⟩ v3) := kpb_set (by omega) (by omega) v3
  refine ⟨(k1.trans k2).trans ((keeps_drawn hd).from _), KpB.t (KpB.t p1 p2) (kpb_drawn hd), boxed_drawn ((y0.other (by omega) v2).other (by omega) v3) hd, boxed_drawn ((y1.other (by omega) v2).other (by omega) v3) hd, boxed_drawn ((y2.set v2).other (by omega) v3) hd, boxed_drawn ((y3.other (by omega) v2).set v3) hd, below_drawn ((hb.trans p1.1).trans p2.1) hd⟩
set_option maxRecDepth 100000 in
set_option maxHeartbeats 4000000 in
theorem matchAt_in (F : Fence) (n : Nat) (h43 : F.fn 43) (h46 : F.fn 46) (h47 : F.fn 47) (hro : F.round = none) (hn : 3 ≤ n) (A0 : Option Addr) (c0 : Nat) (l0 : List Int) (a : Int) (A2 : Option Addr) (c2 : Nat) (ps : List Int) (w : World)
    (hr0 : Kd.C (Kd.int .i64) w A0 l0.length l0) (hc0 : l0.length ≤ c0) (hr2 : Kd.C (Kd.int .i64) w A2 ps.length ps) (hl : l0.length ≤ 1000000) (hp : ps.length ≤ 1000000) (ha : 0 ≤ a ∧ a < l0.length) (hb : ∀ p ∈ ps, 0 ≤ p ∧ p < a) :
    CallsIn F n Try.prog 43 #[.slice A0 l0.length c0, .int .i64 a, .slice A2 ps.length c2] w fun e w' => e = .returned (.tuple #[.int .i64 (matchP l0 a ps.reverse (0, 0)).1, .int .i64 (matchP l0 a ps.reverse (0, 0)).2]) ∧ Below w.heap.size w w' := by
  have h1 : 1 ≤ n := by omega
  refine callsIn_of_wp_marks Try.func43 rfl h43 ?_ hro
  simp only [Try.ntmps43, List.size_toArray, List.length_cons, List.length_nil, Nat.reduceAdd, Nat.reduceSub, Array.replicate_succ, Array.replicate_zero, List.push_toArray, List.append_toArray, List.nil_append, List.cons_append]
  gi_wp2_with (gi_at_call 46; refine (back_in F (n - 1) h46 hro _ _ _ _).mono ?_; rintro e w' ⟨rfl, rfl⟩)
  have B0 := Boxed.new w 22 (.slice A0 l0.length c0)
  have B1 := Boxed.new (w.alloc (.cells #[.slice A0 l0.length c0] 22)) 3 (.int .i64 a)
  have B2 := Boxed.new ((w.alloc (.cells #[.slice A0 l0.length c0] 22)).alloc (.cells #[.int .i64 a] 3)) 3 (.int .i64 0)
  have B3 := Boxed.new (((w.alloc (.cells #[.slice A0 l0.length c0] 22)).alloc (.cells #[.int .i64 a] 3)).alloc (.cells #[.int .i64 0] 3)) 3 (.int .i64 0)
  have B4 := Boxed.new ((((w.alloc (.cells #[.slice A0 l0.length c0] 22)).alloc (.cells #[.int .i64 a] 3)).alloc (.cells #[.int .i64 0] 3)).alloc (.cells #[.int .i64 0] 3)) 22 (.slice A2 ps.length c2)
  simp only [World.size_alloc] at B1 B2 B3 B4
  have hB0 : Below w.heap.size w (((((w.alloc (.cells #[.slice A0 l0.length c0] 22)).alloc (.cells #[.int .i64 a] 3)).alloc (.cells #[.int .i64 0] 3)).alloc (.cells #[.int .i64 0] 3)).alloc (.cells #[.slice A2 ps.length c2] 22)) := below_alloc (below_alloc (below_alloc (below_alloc (below_alloc (Below.refl _ w) _) _) _) _) _
  have hsz : (((((w.alloc (.cells #[.slice A0 l0.length c0] 22)).alloc (.cells #[.int .i64 a] 3)).alloc (.cells #[.int .i64 0] 3)).alloc (.cells #[.int .i64 0] 3)).alloc (.cells #[.slice A2 ps.length c2] 22)).heap.size = w.heap.size + 1 + 1 + 1 + 1 + 1 := by simp only [World.size_alloc]
  have B0' := (((B0.alloc (.cells #[.int .i64 a] 3)).alloc (.cells #[.int .i64 0] 3)).alloc (.cells #[.int .i64 0] 3)).alloc (.cells #[.slice A2 ps.length c2] 22)
  have B1' := ((B1.alloc (.cells #[.int .i64 0] 3)).alloc (.cells #[.int .i64 0] 3)).alloc (.cells #[.slice A2 ps.length c2] 22)
  have B2' := (B2.alloc (.cells #[.int .i64 0] 3)).alloc (.cells #[.slice A2 ps.length c2] 22)
  have B3' := B3.alloc (.cells #[.slice A2 ps.length c2] 22)
  clear B0 B1 B2 B3
  have hWL : ∃ WL, WL = (((((w.alloc (.cells #[.slice A0 l0.length c0] 22)).alloc (.cells #[.int .i64 a] 3)).alloc (.cells #[.int .i64 0] 3)).alloc (.cells #[.int .i64 0] 3)).alloc (.cells #[.slice A2 ps.length c2] 22)) := ⟨_, rfl⟩
  obtain ⟨WL, hWL⟩ := hWL
  rw [← hWL] at B0' B1' B2' B3' B4 hB0 hsz ⊢
  clear hWL
  have hq : ∀ j, j < ps.length → (fun x : Int × Int => 0 ≤ x.2 ∧ x.2 < a) (backF ps j) := fun j hj => hb _ (by
    have hlt : ps.length - 1 - j < ps.length := by omega
    have e : rd ps ((ps.length - 1 - j : Nat) : Int) = ps[ps.length - 1 - j] := by unfold rd; simp [List.getD_eq_getElem?_getD, hlt]
    show rd ps ((ps.length - 1 - j : Nat) : Int) ∈ ps
    rw [e]
    exact List.getElem_mem _)
  refine wpIn_rangeFunc_ownG hro h1 (gf := 47) (lb := #[.pointer (some ⟨w.heap.size + 1 + 1 + 1 + 1, 0, none⟩)]) rfl h47 (enters_of Try.func47 (by kernel_rfl) rfl)
    (back_stopsQ (fun x : Int × Int => 0 ≤ x.2 ∧ x.2 < a) F (n - 1) h47 hro (by omega) (w.heap.size + 1 + 1 + 1 + 1) A2 c2 ps hq hp w WL hr2 hB0 (by omega) B4.cell) KpB.t (KpB.b (by omega)) (Below.refl _ _) (fun _ => rfl)
    (fun pre W => (Boxed W w.heap.size 22 (.slice A0 l0.length c0) ∧ Boxed W (w.heap.size + 1) 3 (.int .i64 a) ∧ MatchI l0 a w.heap.size (pre.map (·.1.2)) W) ∧ Below w.heap.size w W)
    (fun c pre W => (c = .exit 0 ∧ MatchX l0 a w.heap.size (pre.map (·.1.2)) W) ∧ Below w.heap.size w W)
    (OwnFrom.and (Own.from (fun s X Y row hs hg hr => by
      obtain ⟨x0, x1, lg, bk, x2, x3, x4⟩ := hs
      exact ⟨boxed_keep x0 hg hr, boxed_keep x1 hg hr, lg, bk, boxed_keep x2 hg hr, boxed_keep x3 hg hr, x4⟩) _) (ownFrom_below (Nat.le_refl _) (by omega)))
    (fun c => OwnFrom.and (Own.from (fun s X Y row hs hg hr => by
      obtain ⟨x0, lg, bk, x2, x3, x4⟩ := hs
      exact ⟨x0, lg, bk, boxed_keep x2 hg hr, boxed_keep x3 hg hr, x4⟩) _) (ownFrom_below (Nat.le_refl _) (by omega)))
    ⟨⟨B0', B1', 0, 0, B2', B3', fun rest => rfl⟩, hB0⟩
    (fun x => { tmps := #[.slice A0 l0.length c0, .int .i64 a, .slice A2 ps.length c2, .pointer (some ⟨w.heap.size, 0, none⟩), .pointer (some ⟨w.heap.size + 1, 0, none⟩), undef, .int .i64 0, .int .i64 0, .pointer (some ⟨w.heap.size + 1 + 1, 0, none⟩), .pointer (some ⟨w.heap.size + 1 + 1 + 1, 0, none⟩), undef, .int .i64 x.1.2, undef, .slice A2 ps.length c2, .func (.func 47) #[] #[.pointer (some ⟨w.heap.size + 1 + 1 + 1 + 1, 0, none⟩)], .int .i64 x.1.1, .int .i64 x.1.2, undef, undef, undef, undef, undef, undef, undef, undef, undef, undef, undef, undef, undef, undef, undef, undef, undef, undef, undef, undef, undef, undef, undef, undef, undef, undef, undef, undef, undef, undef, undef, undef, undef, undef, undef, undef, undef, undef, undef, undef], defers := [] }) ?assign ?body ?done ?stop
  case assign =>
    intro l x W K hK
    gi_wp2
    exact hK
  case body =>
    rintro l pre ⟨⟨xi, fr⟩, X0, X1⟩ W ⟨⟨x0, x1, lg, bk, x2, x3, x4⟩, hB⟩ hlt
    dsimp only at X0 X1
    have hz0 := x0.cell
    have hz1 := x1.cell
    have hz2 := x2.cell
    have hz3 := x3.cell
    have hf2 := x2.frozen
    have hf3 := x3.frozen
    have w1 : wrap64 (a - fr) = a - fr := by unfold wrap64; omega
    by_cases c1 : a - fr > 200
    · have d1 : decide (a - fr > 200) = true := decide_eq_true c1
      gi_wp2
      refine ⟨KeepsFrom.refl _ _, ⟨rfl, lg, bk, x2, x3, fun rest => ?_⟩, hB⟩
      rw [List.map_append, List.append_assoc, x4]
      show matchP l0 a (fr :: rest) (lg, bk) = _
      simp only [matchP]
      rw [if_pos c1]
    · have d1 : decide (a - fr > 200) = false := decide_eq_false c1
      have hmix : Try.prog.follows .mixedOrders = true := by kernel_rfl
      gi_wp2
      gi_loopw [12] (fun v12 wr => ∃ m : Int, v12 = .int .i64 m ∧ Aside0 (0 ≤ m ∧ m ≤ 66 ∧ a + m ≤ l0.length ∧ mlenF l0 a fr (67 - m.toNat) m = mlen l0 a fr) ∧ Aside0 (Drawn0 W wr))
        (fun v12 _ => (67 - intOf v12).toNat)
      case atStart => exact ⟨0, rfl, ⟨by decide, by decide, by omega, rfl⟩, ⟨Drawn0.refl _⟩⟩
      case round =>
        obtain ⟨m, rfl, HM, HD⟩ := hrel
        obtain ⟨m0, m1, m2, m3⟩ := HM.out
        have w2 : wrap64 (a + m) = a + m := by clear w1; unfold wrap64; omega
        have w3 : wrap64 (fr + m) = fr + m := by clear w1 w2; unfold wrap64; omega
        have w4 : wrap64 (m + 1) = m + 1 := by clear w1 w2 w3; unfold wrap64; omega
        have z0 := (boxed_drawn x0 HD.out).cell
        have z1 := (boxed_drawn x1 HD.out).cell
        clear hz0 hz1
        by_cases c2 : m < 66
        · have d2 : decide (m < 66) = true := decide_eq_true c2
          by_cases c3 : a + m < (l0.length : Int)
          · have d3 : decide (a + m < (l0.length : Int)) = true := decide_eq_true c3
            obtain ⟨ad, e1, hx1⟩ := Kd.at_int (Kd.C_below hr0 (below_drawn hB HD.out)) (a + m) (by omega) (by omega)
            cases e1
            obtain ⟨ad2, e2, hx2⟩ := Kd.at_int (Kd.C_below hr0 (below_drawn hB HD.out)) (fr + m) (by omega) (by omega)
            cases e2
            have q1 : (0 ≤ a + m) = True := eq_true (by omega)
            have q2 : (a + m < (l0.length : Int)) = True := eq_true c3
            have q3 : (0 ≤ fr + m) = True := eq_true (by omega)
            have q4 : (fr + m < (l0.length : Int)) = True := eq_true (by omega)
            by_cases c4 : rd l0 (fr + m) = rd l0 (a + m)
            · have d4 : decide (rd l0 (fr + m) = rd l0 (a + m)) = true := decide_eq_true c4
              have d4b : (rd l0 (fr + m) == rd l0 (a + m)) = true := by simpa using c4
              have hm2 : mlenF l0 a fr (67 - (m + 1).toNat) (m + 1) = mlen l0 a fr := by
                rw [← m3]
                obtain ⟨g, hg⟩ : ∃ g, 67 - m.toNat = g + 1 := ⟨66 - m.toNat, by omega⟩
                have hg' : 67 - (m + 1).toNat = g := by omega
                rw [hg, hg']
                show _ = (if m < 66 ∧ a + m < (l0.length : Int) ∧ rd l0 (fr + m) = rd l0 (a + m) then mlenF l0 a fr g (m + 1) else m)
                rw [if_pos ⟨c2, c3, c4⟩]
              have HX4 := Aside0.mk (And.intro hm2 (And.intro c3 c4))
              clear hm2 m3 c4
              gi_wp2
              refine rq_lit (by kernel_rfl) (by kernel_rfl) (by kernel_rfl) ?_
              repeat (gi_big_quiet_step (fail))
              refine wpQuietIn_nil ?_
              rintro _ ⟨nq, rfl⟩
              have HD2 : Drawn0 W (wr.drewN nq) := by
                obtain ⟨k1, rfl⟩ := HD.out
                exact ⟨k1 + nq, by first | rfl | simp [World.drewN, Nat.add_assoc]⟩
              clear hz2 hz3 hf2 hf3 z0 z1
              generalize wr.drewN nq = W2 at HD2 ⊢
              clear q1 q2 q3 q4 hx1 hx2 c3 d3 d4 d4b
              gi_wp2
              go_roundw
              case rel => exact ⟨m + 1, rfl, ⟨by omega, by omega, by have := HX4.out.2.1; omega, HX4.out.1⟩, ⟨HD2⟩⟩
              case measure => simp [intOf]; omega
            · have d4 : decide (rd l0 (fr + m) = rd l0 (a + m)) = false := decide_eq_false c4
              have d4b : (rd l0 (fr + m) == rd l0 (a + m)) = false := by simpa using c4
              have C4 := Aside0.mk c4
              clear c4
              gi_wp2
              refine rq_lit (by kernel_rfl) (by kernel_rfl) (by kernel_rfl) ?_
              repeat (gi_big_quiet_step (fail))
              refine wpQuietIn_nil ?_
              rintro _ ⟨nq, rfl⟩
              have HD2 : Drawn0 W (wr.drewN nq) := by
                obtain ⟨k1, rfl⟩ := HD.out
                exact ⟨k1 + nq, by first | rfl | simp [World.drewN, Nat.add_assoc]⟩
              clear hz2 hz3 hf2 hf3 z0 z1
              generalize wr.drewN nq = W2 at HD2 ⊢
              have hm : mlen l0 a fr = m := by
                rw [← m3]
                exact mlenF_stop _ _ _ _ _ (by rintro ⟨q1, q2, q3⟩; first | omega | exact absurd q3 C4.out)
              have y0 := boxed_drawn x0 HD2
              have y1 := boxed_drawn x1 HD2
              have y2 := boxed_drawn x2 HD2
              have y3 := boxed_drawn x3 HD2
              have z1 := y1.cell
              have z2 := y2.cell
              have z3 := y3.cell
              have f2 := y2.frozen
              have f3 := y3.frozen
              by_cases c5 : m > lg
              · have d5 : decide (lg < m) = true := decide_eq_true c5
                gi_wp2
                gi_region_with_o (fail)
                all_goals
                  have e3 : IntKind.i64.wrap (a - fr) = a - fr := (i64_w _).trans w1
                  rw [e3]
                  obtain ⟨W3, hW3, s1, s2, s3, s4, s5, s6, s7⟩ := match_store (B := WL.heap.size) (.int .i64 m) (.int .i64 (a - fr)) (by omega) (Nat.le_refl _) (below_drawn hB HD2) y0 y1 y2 y3
                  rw [← hW3]
                  refine ⟨((keeps_drawn HD2).from _).trans s1, KpB.t (kpb_drawn HD2) s2, ⟨s3, s4, m, a - fr, s5, s6, fun rest => ?_⟩, s7⟩
                  rw [List.map_append, List.append_assoc, x4]
                  show matchP l0 a (fr :: rest) (lg, bk) = _
                  simp only [matchP]
                  rw [if_neg (show ¬ a - fr > 200 by omega), hm, if_pos c5]
              · have d5 : decide (lg < m) = false := decide_eq_false c5
                gi_wp2
                refine ⟨(keeps_drawn HD2).from _, kpb_drawn HD2, ⟨y0, y1, lg, bk, y2, y3, fun rest => ?_⟩, below_drawn hB HD2⟩
                rw [List.map_append, List.append_assoc, x4]
                show matchP l0 a (fr :: rest) (lg, bk) = _
                simp only [matchP]
                rw [if_neg (show ¬ a - fr > 200 by omega), hm, if_neg (show ¬ m > lg by omega)]
          · have d3 : decide (a + m < (l0.length : Int)) = false := decide_eq_false c3
            gi_wp2
            refine rq_lit (by kernel_rfl) (by kernel_rfl) (by kernel_rfl) ?_
            repeat (gi_big_quiet_step (fail))
            refine wpQuietIn_nil ?_
            rintro _ ⟨nq, rfl⟩
            have HD2 : Drawn0 W (wr.drewN nq) := by
              obtain ⟨k1, rfl⟩ := HD.out
              exact ⟨k1 + nq, by first | rfl | simp [World.drewN, Nat.add_assoc]⟩
            clear hz2 hz3 hf2 hf3 z0 z1
            generalize wr.drewN nq = W2 at HD2 ⊢
            have hm : mlen l0 a fr = m := by
              rw [← m3]
              exact mlenF_stop _ _ _ _ _ (by rintro ⟨q1, q2, q3⟩; first | omega | exact absurd q3 (by assumption))
            have y0 := boxed_drawn x0 HD2
            have y1 := boxed_drawn x1 HD2
            have y2 := boxed_drawn x2 HD2
            have y3 := boxed_drawn x3 HD2
            have z1 := y1.cell
            have z2 := y2.cell
            have z3 := y3.cell
            have f2 := y2.frozen
            have f3 := y3.frozen
            by_cases c5 : m > lg
            · have d5 : decide (lg < m) = true := decide_eq_true c5
              gi_wp2
              gi_region_with_o (fail)
              all_goals
                have e3 : IntKind.i64.wrap (a - fr) = a - fr := (i64_w _).trans w1
                rw [e3]
                obtain ⟨W3, hW3, s1, s2, s3, s4, s5, s6, s7⟩ := match_store (B := WL.heap.size) (.int .i64 m) (.int .i64 (a - fr)) (by omega) (Nat.le_refl _) (below_drawn hB HD2) y0 y1 y2 y3
                rw [← hW3]
                refine ⟨((keeps_drawn HD2).from _).trans s1, KpB.t (kpb_drawn HD2) s2, ⟨s3, s4, m, a - fr, s5, s6, fun rest => ?_⟩, s7⟩
                rw [List.map_append, List.append_assoc, x4]
                show matchP l0 a (fr :: rest) (lg, bk) = _
                simp only [matchP]
                rw [if_neg (show ¬ a - fr > 200 by omega), hm, if_pos c5]
            · have d5 : decide (lg < m) = false := decide_eq_false c5
              gi_wp2
              refine ⟨(keeps_drawn HD2).from _, kpb_drawn HD2, ⟨y0, y1, lg, bk, y2, y3, fun rest => ?_⟩, below_drawn hB HD2⟩
              rw [List.map_append, List.append_assoc, x4]
              show matchP l0 a (fr :: rest) (lg, bk) = _
              simp only [matchP]
              rw [if_neg (show ¬ a - fr > 200 by omega), hm, if_neg (show ¬ m > lg by omega)]
        · have d2 : decide (m < 66) = false := decide_eq_false c2
          gi_wp2
          refine rq_lit (by kernel_rfl) (by kernel_rfl) (by kernel_rfl) ?_
          repeat (gi_big_quiet_step (fail))
          refine wpQuietIn_nil ?_
          rintro _ ⟨nq, rfl⟩
          have HD2 : Drawn0 W (wr.drewN nq) := by
            obtain ⟨k1, rfl⟩ := HD.out
            exact ⟨k1 + nq, by first | rfl | simp [World.drewN, Nat.add_assoc]⟩
          clear hz2 hz3 hf2 hf3 z0 z1
          generalize wr.drewN nq = W2 at HD2 ⊢
          have hm : mlen l0 a fr = m := by
            rw [← m3]
            exact mlenF_stop _ _ _ _ _ (by rintro ⟨q1, q2, q3⟩; first | omega | exact absurd q3 (by assumption))
          have y0 := boxed_drawn x0 HD2
          have y1 := boxed_drawn x1 HD2
          have y2 := boxed_drawn x2 HD2
          have y3 := boxed_drawn x3 HD2
          have z1 := y1.cell
          have z2 := y2.cell
          have z3 := y3.cell
          have f2 := y2.frozen
          have f3 := y3.frozen
          by_cases c5 : m > lg
          · have d5 : decide (lg < m) = true := decide_eq_true c5
            gi_wp2
            gi_region_with_o (fail)
            all_goals
              have e3 : IntKind.i64.wrap (a - fr) = a - fr := (i64_w _).trans w1
              rw [e3]
              obtain ⟨W3, hW3, s1, s2, s3, s4, s5, s6, s7⟩ := match_store (B := WL.heap.size) (.int .i64 m) (.int .i64 (a - fr)) (by omega) (Nat.le_refl _) (below_drawn hB HD2) y0 y1 y2 y3
              rw [← hW3]
              refine ⟨((keeps_drawn HD2).from _).trans s1, KpB.t (kpb_drawn HD2) s2, ⟨s3, s4, m, a - fr, s5, s6, fun rest => ?_⟩, s7⟩
              rw [List.map_append, List.append_assoc, x4]
              show matchP l0 a (fr :: rest) (lg, bk) = _
              simp only [matchP]
              rw [if_neg (show ¬ a - fr > 200 by omega), hm, if_pos c5]
          · have d5 : decide (lg < m) = false := decide_eq_false c5
            gi_wp2
            refine ⟨(keeps_drawn HD2).from _, kpb_drawn HD2, ⟨y0, y1, lg, bk, y2, y3, fun rest => ?_⟩, below_drawn hB HD2⟩
            rw [List.map_append, List.append_assoc, x4]
            show matchP l0 a (fr :: rest) (lg, bk) = _
            simp only [matchP]
            rw [if_neg (show ¬ a - fr > 200 by omega), hm, if_neg (show ¬ m > lg by omega)]
  case done =>
    rintro D ys W hD hys ⟨⟨x0, x1, lg, bk, x2, x3, x4⟩, hB⟩ hK
    have hM : matchP l0 a ps.reverse (0, 0) = (lg, bk) := by
      have e1 : List.map (fun x : { x : Int × Int // 0 ≤ x.2 ∧ x.2 < a } => x.1.2) ys = ps.reverse := by
        have e2 := congrArg (List.map Prod.snd) hys
        rw [List.map_map, backF_snd ps ps.length (Nat.le_refl _), List.take_of_length_le (by simp)] at e2
        exact e2
      have e3 := x4 []
      rw [List.append_nil, e1] at e3
      exact e3
    have hz2 := x2.cell
    have hz3 := x3.cell
    gi_wp2
    have hmix : Try.prog.follows .mixedOrders = true := by kernel_rfl
    gi_region_with_o (fail)
    all_goals rename_i K' hK'
    all_goals (refine hK' _ _ ?_; gi_wp2)
    all_goals refine ⟨by simp, .inl ⟨_, _, rfl, run_takeDeferred hK, ?_⟩⟩
    all_goals rw [hM]
    all_goals refine ⟨_, results_tmp2 rfl _ _ _, ?_⟩
    all_goals exact ⟨rfl, (below_drawn hB ⟨1, rfl⟩).trans (belowK_b (Nat.le_refl _) _ D _ _ (by omega) hK rfl rfl)⟩
  case stop =>
    rintro D c pre W hD ⟨k, hk, hpre⟩ ⟨⟨rfl, lg, bk, x2, x3, x4⟩, hB⟩ hK
    have hM : matchP l0 a ps.reverse (0, 0) = (lg, bk) := by
      have e1 : List.map (fun x : { x : Int × Int // 0 ≤ x.2 ∧ x.2 < a } => x.1.2) pre = ps.reverse.take k := by
        have e2 := congrArg (List.map Prod.snd) hpre
        rw [List.map_map, backF_snd ps k hk] at e2
        exact e2
      have e3 := x4 (ps.reverse.drop k)
      rw [e1, List.take_append_drop] at e3
      exact e3
    have hz2 := x2.cell
    have hz3 := x3.cell
    gi_wp2
    have hmix : Try.prog.follows .mixedOrders = true := by kernel_rfl
    gi_region_with_o (fail)
    all_goals rename_i K' hK'
    all_goals (refine hK' _ _ ?_; gi_wp2)
    all_goals refine ⟨by simp, .inl ⟨_, _, rfl, run_takeDeferred hK, ?_⟩⟩
    all_goals rw [hM]
    all_goals refine ⟨_, results_tmp2 rfl _ _ _, ?_⟩
    all_goals exact ⟨rfl, (below_drawn hB ⟨1, rfl⟩).trans (belowK_b (Nat.le_refl _) _ D _ _ (by omega) hK rfl rfl)⟩
end Go.Proofs.Ytjbgbnngfbhmjaa.Pk
