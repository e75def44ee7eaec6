/- How arguments that are records, messages and batches are read: each field's value, each slice as a list. For rows whose law takes a struct. -/
import Derived.Test.YtmpnedpokdaejaaVE
import Derived.WalkKit
import Derived.ProofKit
import Derived.OpenShut
import Derived.ChangeOld
import Derived.Deep.Fields
import Derived.Deep.Slices
import Derived.ChangeSame
set_option linter.unusedVariables false
set_option linter.unusedSimpArgs false
namespace Go.Proofs.Ytmpnedpokdaejaa.Open
open Go.ChangeShapes Go.WideShapes Go.ChangeAt Go.RowKit Go.Deep Go.Proofs.YtmpnedpokdaejaaW.PrintWords

theorem list6 {α : Type} {l : List α} (h : l.length = 6) : ∃ a b c d e f, l = [a, b, c, d, e, f] := by
  match l, h with
  | [a, b, c, d, e, f], _ => exact ⟨a, b, c, d, e, f, rfl⟩
theorem list7 {α : Type} {l : List α} (h : l.length = 7) : ∃ a b c d e f g, l = [a, b, c, d, e, f, g] := by
  match l, h with
  | [a, b, c, d, e, f, g], _ => exact ⟨a, b, c, d, e, f, g, rfl⟩
section
variable {H : Type} {enc : TypeId × Value → H} {P : Program} {w : World} {base : Nat}
/-- A field of one cell. -/
theorem field_at {held : Bool} {spare : Nat → Bool} {fs : Array Field} {n : Nat} {cs : List Value} {xs : List (DataW H × List MemPlace)} (hone : oneCellFields P fs = true) (hl : xs.length = fs.size)
    (hg : ∀ (i : Nat) (f : Field), fs[i]? = some f → DataW.trod enc P w base spare held n f.type ((cs.drop f.offset).take (P.cellsOf f.type)) = xs[i]?)
    (j : Nat) {f : Field} (hj : fs[j]? = some f) {c : Value} (hc : cs[j]? = some c) : ∃ y, DataW.trod enc P w base spare held n f.type [c] = some y := by
  obtain ⟨ho, hk⟩ := hone_of hone j f hj
  have h := hg j f hj
  have hjl : j < fs.size := (Array.getElem?_eq_some_iff.1 hj).1
  obtain ⟨hcl, hce⟩ := List.getElem?_eq_some_iff.1 hc
  have e : (cs.drop j).take 1 = [c] := by
    rw [List.drop_eq_getElem_cons hcl, hce]; rfl
  rw [ho, hk, e, List.getElem?_eq_getElem (by omega)] at h
  exact ⟨_, h⟩
theorem field_int {held : Bool} {spare : Nat → Bool} {n : Nat} {t : TypeId} {k : IntKind} {c : Value} (ht : P.underlying t = some (.int k)) (h : ∃ y, DataW.trod enc P w base spare held n t [c] = some y) : ∃ x, c = .int k x ∧ (Lit.int k x).wf = true := by
  obtain ⟨y, hy⟩ := h
  obtain ⟨x, hx, _, hw⟩ := DataW.trod_int ht hy
  exact ⟨x, by simpa using hx, hw⟩
theorem field_bool {held : Bool} {spare : Nat → Bool} {n : Nat} {t : TypeId} {c : Value} (ht : P.underlying t = some .bool) (h : ∃ y, DataW.trod enc P w base spare held n t [c] = some y) : ∃ b, c = .bool b := by
  obtain ⟨y, hy⟩ := h
  obtain ⟨x, hx, _⟩ := DataW.trod_bool ht hy
  exact ⟨x, by simpa using hx⟩
theorem field_ints {held : Bool} {n : Nat} {t e : TypeId} {k : IntKind} {c : Value} (ht : P.underlying t = some (.slice e)) (he : P.underlying e = some (.int k)) (hce : P.cellsOf e = 1) (h : ∃ y, DataW.trod enc P w base (fun _ => true) held n t [c] = some y) :
    ∃ A l cap, c = .slice A l.length cap ∧ Kd.C (Kd.int k) w A l.length l ∧ l.length ≤ cap ∧ l.length ≤ maxLen := by
  obtain ⟨y, hy⟩ := h
  obtain ⟨A, len, cap, z, rfl, hrow⟩ : ∃ A len cap z, c = .slice A len cap ∧ ((A = none ∧ len = 0 ∧ cap = 0 ∧ z = []) ∨ ∃ x, A = some x ∧ len ≤ cap ∧ cap ≤ maxLen ∧ z.length = cap ∧ (∀ i, i < z.length → w.cell? (x.add i) = some (.int k (z.getD i 0))) ∧ ∀ n ∈ z, (Lit.int k n).wf = true) := by
    rcases open_ints ht he hce hy with ⟨hcs, _⟩ | ⟨x, l, c', zs, hcs, _, hl, hm, hz, _, hcell, hwz⟩
    · exact ⟨none, 0, 0, [], by simpa using hcs, .inl ⟨rfl, rfl, rfl, rfl⟩⟩
    · exact ⟨some x, l, c', zs, by simpa using hcs, .inr ⟨x, rfl, hl, hm, by simpa using hz, hcell, hwz⟩⟩
  obtain ⟨l, rfl, hr, hm, _, hc⟩ := ReadsInt.ofRowC hrow
  exact ⟨A, l, cap, rfl, Kd.C_of_reads (d := (0 : Int)) (h1 := fun _ => rfl) hr, hc, hm⟩

/-- A record's cells: its numbers, its marks, its parts. -/
structure Rec where
  o : Int
  t : Int
  hk : Bool
  ks : List Int
  hv : Bool
  vs : List Int
def RecAt (w : World) (x : Rec) (cs : List Value) : Prop := ∃ A3 c3 A5 c5, cs = [.int .i64 x.o, .int .i64 x.t, .bool x.hk, .slice A3 x.ks.length c3, .bool x.hv, .slice A5 x.vs.length c5] ∧
  Kd.C (Kd.int .i64) w A3 x.ks.length x.ks ∧ x.ks.length ≤ c3 ∧ Kd.C (Kd.int .i64) w A5 x.vs.length x.vs ∧ x.vs.length ≤ c5 ∧ x.ks.length ≤ maxLen ∧ x.vs.length ≤ maxLen ∧ (Lit.int .i64 x.o).wf = true ∧ (Lit.int .i64 x.t).wf = true
theorem trod_rec {held : Bool} {T ti tb ts : TypeId} {f0 f1 f2 f3 f4 f5 : Field} {fuel : Nat} {cs : List Value} {y : DataW H × List MemPlace} (hT : P.underlying T = some (.struct #[f0, f1, f2, f3, f4, f5])) (hone : oneCellFields P #[f0, f1, f2, f3, f4, f5] = true) (hC : P.cellsOf T = 6)
    (h0 : f0.type = ti) (h1 : f1.type = ti) (h2 : f2.type = tb) (h3 : f3.type = ts) (h4 : f4.type = tb) (h5 : f5.type = ts) (hti : P.underlying ti = some (.int .i64)) (htb : P.underlying tb = some .bool) (hts : P.underlying ts = some (.slice ti)) (hci : P.cellsOf ti = 1)
    (h : DataW.trod enc P w base (fun _ => true) held fuel T cs = some y) : ∃ x : Rec, RecAt w x cs := by
  obtain ⟨xs, n, _, _, hl, hlen, hg⟩ := DataW.trod_struct hT h
  obtain ⟨c0, c1, c2, c3, c4, c5, rfl⟩ := list6 (hl.trans hC)
  obtain ⟨o, rfl, wo⟩ := field_int hti (h0 ▸ field_at hone hlen hg 0 rfl rfl)
  obtain ⟨t, rfl, wt⟩ := field_int hti (h1 ▸ field_at hone hlen hg 1 rfl rfl)
  obtain ⟨hk, rfl⟩ := field_bool htb (h2 ▸ field_at hone hlen hg 2 rfl rfl)
  obtain ⟨A3, ks, k3, rfl, r3, l3, m3⟩ := field_ints hts hti hci (h3 ▸ field_at hone hlen hg 3 rfl rfl)
  obtain ⟨hv, rfl⟩ := field_bool htb (h4 ▸ field_at hone hlen hg 4 rfl rfl)
  obtain ⟨A5, vs, k5, rfl, r5, l5, m5⟩ := field_ints hts hti hci (h5 ▸ field_at hone hlen hg 5 rfl rfl)
  exact ⟨⟨o, t, hk, ks, hv, vs⟩, A3, k3, A5, k5, rfl, r3, l3, r5, l5, m3, m5, wo, wt⟩
/-- An argument that is a record. -/
theorem arg_rec {r : Reach} {b0 : Nat} {T ti tb ts : TypeId} {f0 f1 f2 f3 f4 f5 : Field} {v : Value} {d : DataW H} {p : List MemPlace} (hT : P.underlying T = some (.struct #[f0, f1, f2, f3, f4, f5])) (hone : oneCellFields P #[f0, f1, f2, f3, f4, f5] = true) (hC : P.cellsOf T = 6)
    (h0 : f0.type = ti) (h1 : f1.type = ti) (h2 : f2.type = tb) (h3 : f3.type = ts) (h4 : f4.type = tb) (h5 : f5.type = ts) (hti : P.underlying ti = some (.int .i64)) (htb : P.underlying tb = some .bool) (hts : P.underlying ts = some (.slice ti)) (hci : P.cellsOf ti = 1)
    (hv : Value.okWide P w r b0 T v) (h : DataW.Trod enc P w base (fun _ => true) true T v d p) : ∃ (x : Rec) (A3 : Option Addr) (c3 : Nat) (A5 : Option Addr) (c5 : Nat), v = .agg #[.int .i64 x.o, .int .i64 x.t, .bool x.hk, .slice A3 x.ks.length c3, .bool x.hv, .slice A5 x.vs.length c5] ∧
      Kd.C (Kd.int .i64) w A3 x.ks.length x.ks ∧ x.ks.length ≤ c3 ∧ Kd.C (Kd.int .i64) w A5 x.vs.length x.vs ∧ x.vs.length ≤ c5 ∧ x.ks.length ≤ maxLen ∧ x.vs.length ≤ maxLen := by
  obtain ⟨cs, rfl, _⟩ := okWide_struct hT hv
  obtain ⟨l⟩ := cs
  obtain ⟨fuel, hf⟩ := h
  obtain ⟨x, A3, c3, A5, c5, e, r3, l3, r5, l5, m3, m5, _, _⟩ := trod_rec hT hone hC h0 h1 h2 h3 h4 h5 hti htb hts hci hf
  obtain rfl : l = _ := by simpa [Value.cells] using e
  exact ⟨x, A3, c3, A5, c5, rfl, r3, l3, r5, l5, m3, m5⟩
/-- A slice of records, as a list. -/
def RecsAt (w : World) (A : Option Addr) (n : Nat) (L : List Rec) : Prop := ReadsRow (RecAt w) 6 w A n L
theorem field_recs {held : Bool} {n : Nat} {tr T ti tb ts : TypeId} {f0 f1 f2 f3 f4 f5 : Field} {c : Value} (hT : P.underlying T = some (.struct #[f0, f1, f2, f3, f4, f5])) (hone : oneCellFields P #[f0, f1, f2, f3, f4, f5] = true) (hC : P.cellsOf T = 6)
    (h0 : f0.type = ti) (h1 : f1.type = ti) (h2 : f2.type = tb) (h3 : f3.type = ts) (h4 : f4.type = tb) (h5 : f5.type = ts) (hti : P.underlying ti = some (.int .i64)) (htb : P.underlying tb = some .bool) (hts : P.underlying ts = some (.slice ti)) (hci : P.cellsOf ti = 1)
    (htr : P.underlying tr = some (.slice T)) (h : ∃ y, DataW.trod enc P w base (fun _ => true) held n tr [c] = some y) :
    ∃ A L cap, c = .slice A L.length cap ∧ RecsAt w A L.length L ∧ L.length ≤ cap ∧ L.length ≤ maxLen := by
  obtain ⟨y, hy⟩ := h
  rcases open_slice htr hy with ⟨hcs, _⟩ | ⟨a, len, cap, m, n', D, Pl, hcs, _, hl, hm, hmm, _, hel⟩
  · exact ⟨none, [], 0, by simpa using hcs, ⟨rfl, by simp, fun h => by simp at h⟩, Nat.le_refl _, by simp⟩
  · have hmc : m = cap := by simpa using hmm
    have key : ∀ i, i < len → ∃ x : Rec, ∃ cs, cs.length = 6 ∧ RecAt w x cs ∧ ∀ j u, cs[j]? = some u → w.cell? (a.add (i * 6 + j)) = some u := by
      intro i hi
      obtain ⟨cs', hc, ht⟩ := hel i (by omega)
      rw [hC] at hc
      obtain ⟨x, hx⟩ := trod_rec hT hone hC h0 h1 h2 h3 h4 h5 hti htb hts hci ht
      obtain ⟨_, hcl, hat⟩ := World.cells?_some hc
      refine ⟨x, cs', hcl, hx, fun j u hj => ?_⟩
      have hjl : j < 6 := by rw [← hcl]; exact (List.getElem?_eq_some_iff.1 hj).1
      have := hat j hjl
      rw [hj, Go.Deep.add_add] at this
      exact this
    have ex : ∀ i, ∃ x : Rec, i < len → ∃ cs, cs.length = 6 ∧ RecAt w x cs ∧ ∀ j u, cs[j]? = some u → w.cell? (a.add (i * 6 + j)) = some u := by
      intro i
      by_cases hi : i < len
      · obtain ⟨x, hx⟩ := key i hi
        exact ⟨x, fun _ => hx⟩
      · exact ⟨⟨0, 0, false, [], false, []⟩, fun h => absurd h hi⟩
    have pick : ∃ F : Nat → Rec, ∀ i, i < len → ∃ cs, cs.length = 6 ∧ RecAt w (F i) cs ∧ ∀ j u, cs[j]? = some u → w.cell? (a.add (i * 6 + j)) = some u := ⟨fun i => Classical.choose (ex i), fun i => Classical.choose_spec (ex i)⟩
    obtain ⟨F, hF⟩ := pick
    have hlen : ((List.range len).map F).length = len := by simp
    refine ⟨some a, (List.range len).map F, cap, by rw [hlen]; simpa using hcs, ?_, by rw [hlen]; exact hl, by rw [hlen]; exact Nat.le_trans hl hm⟩
    rw [hlen]
    refine ⟨hlen, by unfold maxLen at hm; omega, fun _ => ⟨a, rfl, fun j p hj => ?_⟩⟩
    obtain ⟨hjl, hje⟩ := List.getElem?_eq_some_iff.1 hj
    rw [hlen] at hjl
    have : p = F j := by rw [← hje]; simp
    subst this
    obtain ⟨cs, hc1, hc2, hc3⟩ := hF j hjl
    exact ⟨cs, hc1, hc2, hc3⟩
/-- A batch's cells. -/
structure Bat where
  packed : Bool
  mark : Bool
  producer : Int
  epoch : Int
  seq : Int
  recs : List Rec
theorem arg_bat {r : Reach} {b0 : Nat} {B tr T ti tb ts : TypeId} {f0 f1 f2 f3 f4 f5 g0 g1 g2 g3 g4 g5 : Field} {v : Value} {d : DataW H} {p : List MemPlace} (hB : P.underlying B = some (.struct #[g0, g1, g2, g3, g4, g5])) (honeB : oneCellFields P #[g0, g1, g2, g3, g4, g5] = true) (hCB : P.cellsOf B = 6)
    (b0' : g0.type = tb) (b1 : g1.type = tb) (b2 : g2.type = ti) (b3 : g3.type = ti) (b4 : g4.type = ti) (b5 : g5.type = tr)
    (hT : P.underlying T = some (.struct #[f0, f1, f2, f3, f4, f5])) (hone : oneCellFields P #[f0, f1, f2, f3, f4, f5] = true) (hC : P.cellsOf T = 6)
    (h0 : f0.type = ti) (h1 : f1.type = ti) (h2 : f2.type = tb) (h3 : f3.type = ts) (h4 : f4.type = tb) (h5 : f5.type = ts) (hti : P.underlying ti = some (.int .i64)) (htb : P.underlying tb = some .bool) (hts : P.underlying ts = some (.slice ti)) (hci : P.cellsOf ti = 1)
    (htr : P.underlying tr = some (.slice T)) (hv : Value.okWide P w r b0 B v) (h : DataW.Trod enc P w base (fun _ => true) true B v d p) :
    ∃ (x : Bat) (A : Option Addr) (cap : Nat), v = .agg #[.bool x.packed, .bool x.mark, .int .i64 x.producer, .int .i64 x.epoch, .int .i64 x.seq, .slice A x.recs.length cap] ∧ RecsAt w A x.recs.length x.recs ∧ x.recs.length ≤ cap ∧ x.recs.length ≤ maxLen := by
  obtain ⟨cs, rfl, _⟩ := okWide_struct hB hv
  obtain ⟨l⟩ := cs
  obtain ⟨fuel, hf⟩ := h
  have hf' : DataW.trod enc P w base (fun _ => true) true fuel B l = some (d, p) := by simpa [Value.cells] using hf
  obtain ⟨xs, n, _, _, hl, hlen, hg⟩ := DataW.trod_struct hB hf'
  obtain ⟨c0, c1, c2, c3, c4, c5, rfl⟩ := list6 (hl.trans hCB)
  obtain ⟨x0, rfl⟩ := field_bool htb (b0' ▸ field_at honeB hlen hg 0 rfl rfl)
  obtain ⟨x1, rfl⟩ := field_bool htb (b1 ▸ field_at honeB hlen hg 1 rfl rfl)
  obtain ⟨x2, rfl, _⟩ := field_int hti (b2 ▸ field_at honeB hlen hg 2 rfl rfl)
  obtain ⟨x3, rfl, _⟩ := field_int hti (b3 ▸ field_at honeB hlen hg 3 rfl rfl)
  obtain ⟨x4, rfl, _⟩ := field_int hti (b4 ▸ field_at honeB hlen hg 4 rfl rfl)
  obtain ⟨A, L, cap, rfl, r5, l5, m5⟩ := field_recs hT hone hC h0 h1 h2 h3 h4 h5 hti htb hts hci htr (b5 ▸ field_at honeB hlen hg 5 rfl rfl)
  exact ⟨⟨x0, x1, x2, x3, x4, L⟩, A, cap, rfl, r5, l5, m5⟩
/-- An argument that is an old message. -/
structure Msg where
  o : Int
  timed : Bool
  t : Int
  ks : List Int
  vs : List Int
  hk : Bool
  missing : Bool
theorem arg_old {r : Reach} {b0 : Nat} {T ti tb ts : TypeId} {f0 f1 f2 f3 f4 f5 f6 : Field} {v : Value} {d : DataW H} {p : List MemPlace} (hT : P.underlying T = some (.struct #[f0, f1, f2, f3, f4, f5, f6])) (hone : oneCellFields P #[f0, f1, f2, f3, f4, f5, f6] = true) (hC : P.cellsOf T = 7)
    (h0 : f0.type = ti) (h1 : f1.type = tb) (h2 : f2.type = ti) (h3 : f3.type = ts) (h4 : f4.type = ts) (h5 : f5.type = tb) (h6 : f6.type = tb) (hti : P.underlying ti = some (.int .i64)) (htb : P.underlying tb = some .bool) (hts : P.underlying ts = some (.slice ti)) (hci : P.cellsOf ti = 1)
    (hv : Value.okWide P w r b0 T v) (h : DataW.Trod enc P w base (fun _ => true) true T v d p) : ∃ (x : Msg) (A3 : Option Addr) (c3 : Nat) (A4 : Option Addr) (c4 : Nat), v = .agg #[.int .i64 x.o, .bool x.timed, .int .i64 x.t, .slice A3 x.ks.length c3, .slice A4 x.vs.length c4, .bool x.hk, .bool x.missing] ∧
      Kd.C (Kd.int .i64) w A3 x.ks.length x.ks ∧ x.ks.length ≤ c3 ∧ Kd.C (Kd.int .i64) w A4 x.vs.length x.vs ∧ x.vs.length ≤ c4 ∧ x.ks.length ≤ maxLen ∧ x.vs.length ≤ maxLen := by
  obtain ⟨cs, rfl, _⟩ := okWide_struct hT hv
  obtain ⟨l⟩ := cs
  obtain ⟨fuel, hf⟩ := h
  have hf' : DataW.trod enc P w base (fun _ => true) true fuel T l = some (d, p) := by simpa [Value.cells] using hf
  obtain ⟨xs, n, _, _, hl, hlen, hg⟩ := DataW.trod_struct hT hf'
  obtain ⟨c0, c1, c2, c3, c4, c5, c6, rfl⟩ := list7 (hl.trans hC)
  obtain ⟨x0, rfl, _⟩ := field_int hti (h0 ▸ field_at hone hlen hg 0 rfl rfl)
  obtain ⟨x1, rfl⟩ := field_bool htb (h1 ▸ field_at hone hlen hg 1 rfl rfl)
  obtain ⟨x2, rfl, _⟩ := field_int hti (h2 ▸ field_at hone hlen hg 2 rfl rfl)
  obtain ⟨A3, ks, k3, rfl, r3, l3, m3⟩ := field_ints hts hti hci (h3 ▸ field_at hone hlen hg 3 rfl rfl)
  obtain ⟨A4, vs, k4, rfl, r4, l4, m4⟩ := field_ints hts hti hci (h4 ▸ field_at hone hlen hg 4 rfl rfl)
  obtain ⟨x5, rfl⟩ := field_bool htb (h5 ▸ field_at hone hlen hg 5 rfl rfl)
  obtain ⟨x6, rfl⟩ := field_bool htb (h6 ▸ field_at hone hlen hg 6 rfl rfl)
  exact ⟨⟨x0, x1, x2, ks, vs, x5, x6⟩, A3, k3, A4, k4, rfl, r3, l3, r4, l4, m3, m4⟩
/-- A message's cells, as they lie. -/
def MsgAt (w : World) (x : Msg) (cs : List Value) : Prop := ∃ A3 c3 A4 c4, cs = [.int .i64 x.o, .bool x.timed, .int .i64 x.t, .slice A3 x.ks.length c3, .slice A4 x.vs.length c4, .bool x.hk, .bool x.missing] ∧
  Kd.C (Kd.int .i64) w A3 x.ks.length x.ks ∧ x.ks.length ≤ c3 ∧ Kd.C (Kd.int .i64) w A4 x.vs.length x.vs ∧ x.vs.length ≤ c4 ∧ x.ks.length ≤ maxLen ∧ x.vs.length ≤ maxLen
theorem trod_msg {held : Bool} {T ti tb ts : TypeId} {f0 f1 f2 f3 f4 f5 f6 : Field} {fuel : Nat} {cs : List Value} {y : DataW H × List MemPlace} (hT : P.underlying T = some (.struct #[f0, f1, f2, f3, f4, f5, f6])) (hone : oneCellFields P #[f0, f1, f2, f3, f4, f5, f6] = true) (hC : P.cellsOf T = 7)
    (h0 : f0.type = ti) (h1 : f1.type = tb) (h2 : f2.type = ti) (h3 : f3.type = ts) (h4 : f4.type = ts) (h5 : f5.type = tb) (h6 : f6.type = tb) (hti : P.underlying ti = some (.int .i64)) (htb : P.underlying tb = some .bool) (hts : P.underlying ts = some (.slice ti)) (hci : P.cellsOf ti = 1)
    (h : DataW.trod enc P w base (fun _ => true) held fuel T cs = some y) : ∃ x : Msg, MsgAt w x cs := by
  obtain ⟨xs, n, _, _, hl, hlen, hg⟩ := DataW.trod_struct hT h
  obtain ⟨c0, c1, c2, c3, c4, c5, c6, rfl⟩ := list7 (hl.trans hC)
  obtain ⟨x0, rfl, _⟩ := field_int hti (h0 ▸ field_at hone hlen hg 0 rfl rfl)
  obtain ⟨x1, rfl⟩ := field_bool htb (h1 ▸ field_at hone hlen hg 1 rfl rfl)
  obtain ⟨x2, rfl, _⟩ := field_int hti (h2 ▸ field_at hone hlen hg 2 rfl rfl)
  obtain ⟨A3, ks, k3, rfl, r3, l3, m3⟩ := field_ints hts hti hci (h3 ▸ field_at hone hlen hg 3 rfl rfl)
  obtain ⟨A4, vs, k4, rfl, r4, l4, m4⟩ := field_ints hts hti hci (h4 ▸ field_at hone hlen hg 4 rfl rfl)
  obtain ⟨x5, rfl⟩ := field_bool htb (h5 ▸ field_at hone hlen hg 5 rfl rfl)
  obtain ⟨x6, rfl⟩ := field_bool htb (h6 ▸ field_at hone hlen hg 6 rfl rfl)
  exact ⟨⟨x0, x1, x2, ks, vs, x5, x6⟩, A3, k3, A4, k4, rfl, r3, l3, r4, l4, m3, m4⟩
def MsgsAt (w : World) (A : Option Addr) (n : Nat) (L : List Msg) : Prop := ReadsRow (MsgAt w) 7 w A n L
/-- An argument that is a slice of messages. -/
theorem arg_olds {r : Reach} {b0 : Nat} {tr T ti tb ts : TypeId} {f0 f1 f2 f3 f4 f5 f6 : Field} {v : Value} {d : DataW H} {p : List MemPlace} (hT : P.underlying T = some (.struct #[f0, f1, f2, f3, f4, f5, f6])) (hone : oneCellFields P #[f0, f1, f2, f3, f4, f5, f6] = true) (hC : P.cellsOf T = 7)
    (h0 : f0.type = ti) (h1 : f1.type = tb) (h2 : f2.type = ti) (h3 : f3.type = ts) (h4 : f4.type = ts) (h5 : f5.type = tb) (h6 : f6.type = tb) (hti : P.underlying ti = some (.int .i64)) (htb : P.underlying tb = some .bool) (hts : P.underlying ts = some (.slice ti)) (hci : P.cellsOf ti = 1)
    (htr : P.underlying tr = some (.slice T)) (hv : Value.okWide P w r b0 tr v) (h : DataW.Trod enc P w base (fun _ => true) true tr v d p) :
    ∃ A L cap, v = .slice A (List.length L) cap ∧ MsgsAt w A L.length L ∧ L.length ≤ cap ∧ L.length ≤ maxLen := by
  obtain ⟨a0, len0, cap0, rfl⟩ := okWide_slice htr hv
  obtain ⟨fuel, hf⟩ := h
  rcases open_slice htr hf with ⟨hcs, _⟩ | ⟨a, len, cap, m, n', D, Pl, hcs, _, hl, hm, hmm, _, hel⟩
  · exact ⟨none, [], 0, by simpa [Value.cells] using hcs, ⟨rfl, by simp, fun h => by simp at h⟩, Nat.le_refl _, by simp⟩
  · have hmc : m = cap := by simpa using hmm
    have key : ∀ i, i < len → ∃ x : Msg, ∃ cs, cs.length = 7 ∧ MsgAt w x cs ∧ ∀ j u, cs[j]? = some u → w.cell? (a.add (i * 7 + j)) = some u := by
      intro i hi
      obtain ⟨cs', hc, ht⟩ := hel i (by omega)
      rw [hC] at hc
      obtain ⟨x, hx⟩ := trod_msg hT hone hC h0 h1 h2 h3 h4 h5 h6 hti htb hts hci ht
      obtain ⟨_, hcl, hat⟩ := World.cells?_some hc
      refine ⟨x, cs', hcl, hx, fun j u hj => ?_⟩
      have hjl : j < 7 := by rw [← hcl]; exact (List.getElem?_eq_some_iff.1 hj).1
      have := hat j hjl
      rw [hj, Go.Deep.add_add] at this
      exact this
    have ex : ∀ i, ∃ x : Msg, i < len → ∃ cs, cs.length = 7 ∧ MsgAt w x cs ∧ ∀ j u, cs[j]? = some u → w.cell? (a.add (i * 7 + j)) = some u := by
      intro i
      by_cases hi : i < len
      · obtain ⟨x, hx⟩ := key i hi
        exact ⟨x, fun _ => hx⟩
      · exact ⟨⟨0, false, 0, [], [], false, false⟩, fun h => absurd h hi⟩
    have pick : ∃ F : Nat → Msg, ∀ i, i < len → ∃ cs, cs.length = 7 ∧ MsgAt w (F i) cs ∧ ∀ j u, cs[j]? = some u → w.cell? (a.add (i * 7 + j)) = some u := ⟨fun i => Classical.choose (ex i), fun i => Classical.choose_spec (ex i)⟩
    obtain ⟨F, hF⟩ := pick
    have hlen : ((List.range len).map F).length = len := by simp
    refine ⟨some a, (List.range len).map F, cap, by rw [hlen]; simpa [Value.cells] using hcs, ?_, by rw [hlen]; exact hl, by rw [hlen]; exact Nat.le_trans hl hm⟩
    rw [hlen]
    refine ⟨hlen, by unfold maxLen at hm; omega, fun _ => ⟨a, rfl, fun j p hj => ?_⟩⟩
    obtain ⟨hjl, hje⟩ := List.getElem?_eq_some_iff.1 hj
    rw [hlen] at hjl
    have : p = F j := by rw [← hje]; simp
    subst this
    obtain ⟨cs, hc1, hc2, hc3⟩ := hF j hjl
    exact ⟨cs, hc1, hc2, hc3⟩
end
end Go.Proofs.Ytmpnedpokdaejaa.Open
