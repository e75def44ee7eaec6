import Derived.Test.YtjbgbnngfbhmjaaPkP
namespace Go.Proofs.Ytjbgbnngfbhmjaa.Pk
open Go.RowKit Go.Shelf Go.Proofs.YtjbgbnngfbhmjaaW.PrintWords Go.Proofs.YtjbgbnngfbhmjaaW.PrintLast Go.Proofs.YtjbgbnngfbhmjaaW.PrintMore
open Go.WideElems Go.ChangeMaps
set_option linter.unusedVariables false
set_option linter.unusedSimpArgs false
set_option maxRecDepth 100000 in
set_option maxHeartbeats 4000000 in
theorem pack_calls (A0 : Option Addr) (c0 : Nat) (l0 : List Int) (r : List Int) (w : World) (hr0 : Kd.C (Kd.int .i64) w A0 l0.length l0) (hc0 : l0.length ≤ c0) (hl : l0.length ≤ 200) (hB : ∀ i : Int, 0 ≤ i → i < l0.length → isB (rd l0 i)) (h : packG l0 (l0.length + 1) [] [] 0 = some r) :
    Calls Try.prog 30 #[.slice A0 l0.length c0] w fun e w' => ∃ v, e = .returned v ∧ Kd.R (Kd.int .i64) 3 w' w.heap.size (fun _ => True) v r ∧ Below w.heap.size w w' := by
  have hmk := makeMap_run
  have HR0 := Aside0.mk hr0
  have HC0 := Aside0.mk hc0
  have HH := Aside0.mk h
  have HBB := Aside0.mk hB
  clear hr0 hc0 h hB
  go_enter Try.func30, Try.ntmps30
  go_upto_region 5 with (first
    | ((with_reducible refine gate_dst (N := 11) rfl ?_); refine Kd.R_lit (Kd.int .i64) _ 3 ?hg (N := 11) ?hd (xs := ([] : List Int)) (inner := []) (ok := fun _ => True) (okp := fun _ => True) ?hr ?hp (fun _ hk => hk) trivial (Below.refl _ _) (Nat.le_refl _) (by simp) ?_; (case hd => rfl); (case hg => rfl); (case hr => first | (go_simp; done) | (go_simp; rfl)); (case hp => exact (Reps.none _ _)); intro vo w1 ho1 hb1 hg11_ hn11_)
    | ((with_reducible refine gate_dst (N := 12) rfl ?_); refine Kd.R_lit (Kd.int .i64) _ 3 ?hg (N := 12) ?hd (xs := ([] : List Int)) (inner := []) (ok := fun _ => True) (okp := fun _ => True) ?hr ?hp (fun _ hk => hk) trivial (Below.refl _ _) (Nat.le_refl _) (by simp) ?_; (case hd => rfl); (case hg => rfl); (case hr => first | (go_simp; done) | (go_simp; rfl)); (case hp => exact (Reps.none _ _)); intro vp w2 ho2 hb2 hg12_ hn12_; obtain ⟨Ao, co, eo⟩ := Kd.R_slice ho1; subst eo; obtain ⟨Ap, cp, ep⟩ := Kd.R_slice ho2; subst ep))
  obtain ⟨hg, I0⟩ := pack_init (A0 := A0) (c0 := c0) (l0 := l0) hb1 hb2 ho1 ho2
  have hw5 : ∃ W5, W5 = ((((w2.alloc (.cells #[.slice Ao ([] : List Int).length co] 22)).alloc (.cells #[.slice Ap ([] : List Int).length cp] 22)).alloc (.map #[] 0)).alloc (.cells #[.map (some (w2.heap.size + 1 + 1))] 44)) := ⟨_, rfl⟩
  obtain ⟨W5, hW5⟩ := hw5
  rw [← hW5] at I0
  simp only [List.length_nil] at hW5
  rw [← hW5]
  clear hW5 hg11_ hg12_ hn11_ hn12_ ho1 ho2 hb1 hb2 hmk
  generalize w2.heap.size = g at *
  have HS := Aside0.mk (show PackS w g A0 c0 l0 0 [] [] W5 from ⟨_, _, _, _, I0⟩)
  have HG := Aside0.mk hg
  clear I0
  go_wp2
  go_loopg [8] (l0.length + 1) (fun kq v8 w' => ∃ (a : Nat) (out plain : List Int), v8 = .int .i64 (a : Int) ∧ Aside0 (packG l0 kq out plain a = some r) ∧ Aside0 (a ≤ l0.length ∧ out.length + 2 * plain.length ≤ 2 * a) ∧ Aside0 (PackS w g A0 c0 l0 a out plain w'))
  case atStart => exact ⟨0, [], [], rfl, HH, ⟨by omega, by simp⟩, HS⟩
  case round =>
    obtain ⟨a, out, plain, rfl, HP, HL, HSa⟩ := hrel
    cases gk with
    | zero => exact absurd HP.out (by simp [packG])
    | succ k1 =>
    have hp := HP.out
    rw [packG] at hp
    obtain ⟨vo, vp, es, clock, hI⟩ := HSa.out
    obtain ⟨Av, cv, hvp⟩ := Kd.R_slice hI.rP
    subst hvp
    obtain ⟨Aw, cw, hvo⟩ := Kd.R_slice hI.rO
    subst hvo
    have hz1 := hI.bI.cell
    have hz2 := hI.bO.cell
    have hz3 := hI.bP.cell
    have hz4 := hI.bS.cell
    have w3 : wrap64 ((a : Int) + 3) = (a : Int) + 3 := by have := HL.out; unfold wrap64; omega
    have w1 : wrap64 ((a : Int) + 1) = (a : Int) + 1 := by have := HL.out; unfold wrap64; omega
    have w3' : IntKind.i64.wrap ((a : Int) + 3) = (a : Int) + 3 := (i64_w _).trans w3
    have w1' : IntKind.i64.wrap ((a : Int) + 1) = (a : Int) + 1 := (i64_w _).trans w1
    have HI := Aside0.mk hI
    clear hI HSa HP
    by_cases ca : a < l0.length
    · rw [if_pos ca] at hp
      have HP := Aside0.mk hp
      have HCA := Aside0.mk ca
      have d1 : decide ((a : Int) < (l0.length : Int)) = true := decide_eq_true (by omega)
      have d1n : decide (a < l0.length) = true := decide_eq_true ca
      clear hp ca
      go_upto_if 24 with fail
      go_cut [9, 10] (fun v9 v10 wc => ∃ lg bk : Int, v9 = .int .i64 lg ∧ v10 = .int .i64 bk ∧ Aside0 ((lg, bk) = best2 l0 (a : Int) (seenF l0 a (keyAt l0 a))) ∧ Aside0 (PackS w g A0 c0 l0 a out plain wc))
      case first =>
        by_cases c3 : (a : Int) + 3 ≤ (l0.length : Int)
        · have d3 : decide ((a : Int) + 3 ≤ (l0.length : Int)) = true := decide_eq_true c3
          have hI := HI.out
          obtain ⟨ad, ad', c', eA, hcut, harr, hx2, hy3, hz3x⟩ := key_facts (a := (a : Int)) (Kd.C_below HR0.out hI.below) HC0.out (by omega) c3
          subst eA
          obtain ⟨x, hx⟩ : ∃ x, x = rd l0 (a : Int) := ⟨_, rfl⟩
          obtain ⟨y, hy⟩ : ∃ y, y = rd l0 ((a : Int) + 1) := ⟨_, rfl⟩
          obtain ⟨z, hz⟩ : ∃ z, z = rd l0 ((a : Int) + 2) := ⟨_, rfl⟩
          rw [← hx] at hx2
          rw [← hy] at hy3
          rw [← hz] at hz3x
          have bx : isB x := by rw [hx]; exact HBB.out _ (by omega) (by omega)
          have by_ : isB y := by rw [hy]; exact HBB.out _ (by omega) (by omega)
          have bz : isB z := by rw [hz]; exact HBB.out _ (by omega) (by omega)
          obtain ⟨v2, hlook, hR2⟩ := hI.S.lookup bx by_ bz
          have ek : (x, y, z) = keyAt l0 (a : Int) := by rw [hx, hy, hz]; rfl
          rw [ek] at hR2
          obtain ⟨ps, hps⟩ : ∃ ps, ps = seenF l0 a (keyAt l0 (a : Int)) := ⟨_, rfl⟩
          rw [← hps] at hR2
          obtain ⟨A2, c2, hv2⟩ := Kd.R_slice hR2
          subst hv2
          have mdr : Mv (fun _ => False) wr wr.drew := ⟨rfl, rfl, rfl, Nat.le_refl _, fun _ _ _ => rfl⟩
          have hI2 := hI.mv mdr
          have hmt := matchAt_calls (some ad) c0 l0 (a : Int) A2 c2 ps wr.drew (Kd.C_below HR0.out hI2.below) HC0.out (Kd.R_reads' (mdr.row hR2 (fun _ _ e => e))).2.2 (by omega) (by rw [hps]; have := seenF_len l0 a (keyAt l0 (a : Int)); have := HCA.out; omega) (by have := HCA.out; omega) (by rw [hps]; exact seenF_rng l0 a _)
          have HI2 := Aside0.mk hI2
          have hob := hI.S.obj
          have HK := Aside0.mk (And.intro ek hps)
          have HXS := Aside0.mk (And.intro hx (And.intro hy hz))
          have HC3 := Aside0.mk c3
          have hu46 := Try.underlying46
          unfold key3 at hlook
          clear hI hI2 mdr hx hy hz ek hps hR2 bx by_ bz
          go_upto_region 9 with fail
          refine start_ (n := 17) (S := fun w' => w'.cell? ⟨w.heap.size, 0, none⟩ = some (.slice (some ad) l0.length c0) ∧ w'.cell? ⟨g + 1 + 1 + 1, 0, none⟩ = some (.map (some (g + 1 + 1))) ∧ w'.cell? ad' = some (.int .i64 x) ∧ w'.cell? ⟨ad'.block, ad'.off + 1, none⟩ = some (.int .i64 y) ∧ w'.cell? ⟨ad'.block, ad'.off + 2, none⟩ = some (.int .i64 z) ∧ w'.heap[g + 1 + 1]? = some (.map es clock)) (ds := [11]) #[false, false, false, false, false, false, false, false, false, false, false, false, false, false, false, false, false] (by kernel_rfl) rfl rfl ⟨hz1, hz4, hx2, hy3, hz3x, hob⟩ (fun hHeld => ?_)
          refine pure_ (i := 1) (N := some 27) (v := ?_) (a' := ?_) #[false, true, false, false, false, false, false, false, false, false, false, false, false, false, false, false, false] rfl rfl (by kernel_rfl) (fun _ _ _ h => h) (Or.inl ⟨by rfl, ?_⟩) ?_ ?_
          rotate_left
          · intro w'
            go_simp
            with_reducible rfl
          rotate_left
          · simp only [Act.put, List.setIfInBounds_toArray, List.set_cons_zero, List.set_cons_succ, i64_w, i32_w]
            rfl
          refine pure_ (i := 4) (N := some 30) (v := ?_) (a' := ?_) #[false, true, false, false, true, false, false, false, false, false, false, false, false, false, false, false, false] rfl rfl (by kernel_rfl) (fun _ _ _ h => h) (Or.inl ⟨by rfl, ?_⟩) ?_ ?_
          rotate_left
          · intro w'
            go_simp
            with_reducible rfl
          rotate_left
          · simp only [Act.put, List.setIfInBounds_toArray, List.set_cons_zero, List.set_cons_succ, i64_w, i32_w]
            rfl
          refine pure_ (i := 5) (N := some 31) (v := ?_) (a' := ?_) #[false, true, false, false, true, true, false, false, false, false, false, false, false, false, false, false, false] rfl rfl (by kernel_rfl) (fun _ _ _ h => h) (Or.inl ⟨by rfl, ?_⟩) ?_ ?_
          rotate_left
          · intro w'
            go_simp
            with_reducible rfl
          rotate_left
          · simp only [Act.put, List.setIfInBounds_toArray, List.set_cons_zero, List.set_cons_succ, i64_w, i32_w]
            rfl
          refine pure_ (i := 6) (N := some 32) (v := ?_) (a' := ?_) #[false, true, false, false, true, true, true, false, false, false, false, false, false, false, false, false, false] rfl rfl (by kernel_rfl) (fun _ _ _ h => h) (Or.inl ⟨by rfl, ?_⟩) ?_ ?_
          rotate_left
          · intro w'
            go_simp
            with_reducible rfl
          rotate_left
          · simp only [Act.put, List.setIfInBounds_toArray, List.set_cons_zero, List.set_cons_succ, i64_w, i32_w]
            rfl
          refine take_ (i := 0) (N := some 26) (v := ?_) (a' := ?_) #[true, true, false, false, true, true, true, false, false, false, false, false, false, false, false, false, false] rfl rfl (by kernel_rfl) (fun _ _ _ h => h) (Or.inl ⟨by rfl, ?_⟩) hHeld ?_ ?_
          rotate_left
          · rintro w' ⟨s0, s1, s2, s3, s4, s5⟩
            go_simp
            with_reducible rfl
          rotate_left
          · simp only [Act.put, List.setIfInBounds_toArray, List.set_cons_zero, List.set_cons_succ, i64_w, i32_w]
            rfl
          refine take_ (i := 2) (N := some 28) (v := ?_) (a' := ?_) #[true, true, true, false, true, true, true, false, false, false, false, false, false, false, false, false, false] rfl rfl (by kernel_rfl) (fun _ _ _ h => h) (Or.inl ⟨by rfl, ?_⟩) hHeld ?_ ?_
          rotate_left
          · rintro w' ⟨s0, s1, s2, s3, s4, s5⟩
            go_simp
            with_reducible rfl
          rotate_left
          · simp only [Act.put, List.setIfInBounds_toArray, List.set_cons_zero, List.set_cons_succ, i64_w, i32_w]
            rfl
          refine take_ (i := 3) (N := some 29) (v := ?_) (a' := ?_) #[true, true, true, true, true, true, true, false, false, false, false, false, false, false, false, false, false] rfl rfl (by kernel_rfl) (fun _ _ _ h => h) (Or.inl ⟨by rfl, ?_⟩) hHeld ?_ ?_
          rotate_left
          · rintro w' ⟨s0, s1, s2, s3, s4, s5⟩
            go_simp
            with_reducible rfl
          rotate_left
          · simp only [Act.put, List.setIfInBounds_toArray, List.set_cons_zero, List.set_cons_succ, i64_w, i32_w]
            rfl
          refine pure_ (i := 7) (N := some 33) (v := ?_) (a' := ?_) #[true, true, true, true, true, true, true, true, false, false, false, false, false, false, false, false, false] rfl rfl (by kernel_rfl) (fun _ _ _ h => h) (Or.inl ⟨by rfl, ?_⟩) ?_ ?_
          rotate_left
          · intro w'
            go_simp
            with_reducible rfl
          rotate_left
          · simp only [Act.put, List.setIfInBounds_toArray, List.set_cons_zero, List.set_cons_succ, i64_w, i32_w]
            rfl
          refine pure_ (i := 8) (N := some 34) (v := ?_) (a' := ?_) #[true, true, true, true, true, true, true, true, true, false, false, false, false, false, false, false, false] rfl rfl (by kernel_rfl) (fun _ _ _ h => h) (Or.inl ⟨by rfl, ?_⟩) ?_ ?_
          rotate_left
          · intro w'
            go_simp
            with_reducible rfl
          rotate_left
          · simp only [Act.put, List.setIfInBounds_toArray, List.set_cons_zero, List.set_cons_succ, i64_w, i32_w]
            rfl
          refine take_ (i := 9) (N := some 35) (v := ?_) (a' := ?_) #[true, true, true, true, true, true, true, true, true, true, false, false, false, false, false, false, false] rfl rfl (by kernel_rfl) (fun _ _ _ h => h) (Or.inl ⟨by rfl, ?_⟩) hHeld ?_ ?_
          rotate_left
          · rintro w' ⟨s0, s1, s2, s3, s4, s5⟩
            go_simp
            with_reducible rfl
          rotate_left
          · simp only [Act.put, List.setIfInBounds_toArray, List.set_cons_zero, List.set_cons_succ, i64_w, i32_w]
            rfl
          refine take_ (i := 10) (N := some 36) (v := ?_) (a' := ?_) #[true, true, true, true, true, true, true, true, true, true, true, false, false, false, false, false, false] rfl rfl (by kernel_rfl) (fun _ _ _ h => h) (Or.inl ⟨by rfl, ?_⟩) hHeld ?_ ?_
          rotate_left
          · rintro w' ⟨s0, s1, s2, s3, s4, s5⟩
            have hlk := hlook w' s5
            go_simp
            with_reducible rfl
          rotate_left
          · simp only [Act.put, List.setIfInBounds_toArray, List.set_cons_zero, List.set_cons_succ, i64_w, i32_w]
            rfl
          refine last_ (i := 11) (N := some 37) #[true, true, true, true, true, true, true, true, true, true, true, true, false, false, false, false, false] rfl rfl (by kernel_rfl) (by decide) (fun K hK => ?_)
          refine goes_ Try.func43 (by kernel_rfl) rfl #[.slice (some ad) l0.length c0, .int .i64 (a : Int), .slice A2 ps.length c2] (by rfl) rfl rfl (by simp only [List.map_toArray, List.map_cons, List.map_nil]; rfl) ?_
          with_reducible refine (hmt).mono ?_
          rintro e w3 ⟨rfl, hbm⟩
          refine ⟨_, rfl, ?_⟩
          refine hK.out _ _ ?_
          clear hK K
          refine norm_ (a' := ?_) ?_ ?_
          rotate_left
          · show Act.put _ (some 37) _ = _
            simp only [Act.put, List.setIfInBounds_toArray, List.set_cons_zero, List.set_cons_succ, i64_w, i32_w]
            rfl
          refine pure_ (i := 12) (N := some 25) (v := ?_) (a' := ?_) #[true, true, true, true, true, true, true, true, true, true, true, true, true, false, false, false, false] rfl rfl (by kernel_rfl) (fun _ _ _ h => h) (Or.inl ⟨by rfl, ?_⟩) ?_ ?_
          rotate_left
          · intro w'
            go_simp
            with_reducible rfl
          rotate_left
          · simp only [Act.put, List.setIfInBounds_toArray, List.set_cons_zero, List.set_cons_succ, i64_w, i32_w]
            rfl
          refine pure_ (i := 13) (N := some 38) (v := ?_) (a' := ?_) #[true, true, true, true, true, true, true, true, true, true, true, true, true, true, false, false, false] rfl rfl (by kernel_rfl) (fun _ _ _ h => h) (Or.inl ⟨by rfl, ?_⟩) ?_ ?_
          rotate_left
          · intro w'
            go_simp
            with_reducible rfl
          rotate_left
          · simp only [Act.put, List.setIfInBounds_toArray, List.set_cons_zero, List.set_cons_succ, i64_w, i32_w]
            rfl
          refine pure_ (i := 14) (N := some 39) (v := ?_) (a' := ?_) #[true, true, true, true, true, true, true, true, true, true, true, true, true, true, true, false, false] rfl rfl (by kernel_rfl) (fun _ _ _ h => h) (Or.inl ⟨by rfl, ?_⟩) ?_ ?_
          rotate_left
          · intro w'
            go_simp
            with_reducible rfl
          rotate_left
          · simp only [Act.put, List.setIfInBounds_toArray, List.set_cons_zero, List.set_cons_succ, i64_w, i32_w]
            rfl
          refine pure_ (i := 15) (N := some 9) (v := ?_) (a' := ?_) #[true, true, true, true, true, true, true, true, true, true, true, true, true, true, true, true, false] rfl rfl (by kernel_rfl) (fun _ _ _ h => h) (Or.inl ⟨by rfl, ?_⟩) ?_ ?_
          rotate_left
          · intro w'
            go_simp
            with_reducible rfl
          rotate_left
          · simp only [Act.put, List.setIfInBounds_toArray, List.set_cons_zero, List.set_cons_succ, i64_w, i32_w]
            rfl
          refine pure_ (i := 16) (N := some 10) (v := ?_) (a' := ?_) #[true, true, true, true, true, true, true, true, true, true, true, true, true, true, true, true, true] rfl rfl (by kernel_rfl) (fun _ _ _ h => h) (Or.inl ⟨by rfl, ?_⟩) ?_ ?_
          rotate_left
          · intro w'
            go_simp
            with_reducible rfl
          rotate_left
          · simp only [Act.put, List.setIfInBounds_toArray, List.set_cons_zero, List.set_cons_succ, i64_w, i32_w]
            rfl
          refine done_ (by kernel_rfl) ?_
          go_wp2
          go_meet
          case rel =>
            refine ⟨_, _, rfl, rfl, ⟨?_⟩, ⟨⟨_, _, _, _, HI2.out.mv (Below.mvF hbm)⟩⟩⟩
            rw [← HK.out.2]
            unfold best2
            rw [if_pos HC3.out]
        · have d3 : decide ((a : Int) + 3 ≤ (l0.length : Int)) = false := decide_eq_false c3
          have HC3 := Aside0.mk c3
          clear hz1 hz2 hz3 hz4
          go_wp2
          go_meet
          case rel =>
            refine ⟨_, _, rfl, rfl, ⟨?_⟩, ⟨⟨_, _, _, _, HI.out⟩⟩⟩
            unfold best2
            rw [if_neg (by have := HC3.out; omega)]
      case rest =>
        obtain ⟨lg, bk, rfl, rfl, HB2, HS2⟩ := hcut
        clear hz1 hz2 hz3 hz4 HI
        obtain ⟨vo, vp, es2, clock2, hI⟩ := HS2.out
        obtain ⟨Av2, cv2, hvp⟩ := Kd.R_slice hI.rP
        subst hvp
        have hz1 := hI.bI.cell
        have hz2 := hI.bO.cell
        have hz3 := hI.bP.cell
        have hz4 := hI.bS.cell
        by_cases cb : lg < 3
        · have d4 : decide (lg < 3) = true := decide_eq_true cb
          obtain ⟨adb, eab, hxb⟩ := Kd.at_int (Kd.C_below HR0.out hI.below) (a : Int) (by omega) (by have := HCA.out; omega)
          have q1 : (a < l0.length) = True := eq_true HCA.out
          obtain ⟨x, hxe⟩ : ∃ x, x = rd l0 (a : Int) := ⟨_, rfl⟩
          rw [← hxe, Int.toNat_natCast] at hxb
          have HXE := Aside0.mk hxe
          subst eab
          have hI2 := hI.mv (W' := wc.drew) ⟨rfl, rfl, rfl, Nat.le_refl _, fun _ _ _ => rfl⟩
          obtain ⟨v1, W2, run1, bP2, hI3⟩ := pack_plain hI2 x (by have := HL.out; omega) (by have := HG.out; omega)
          obtain ⟨Av3, cv3, hv3⟩ := Kd.R_slice hI3.rP
          subst hv3
          obtain ⟨n3, hn3⟩ : ∃ n3, n3 = (plain ++ [x]).length := ⟨_, rfl⟩
          rw [← hn3] at run1 hI3
          clear hn3
          have hz5 := bP2.cell
          have hf5 := bP2.frozen
          have HI3 := Aside0.mk hI3
          clear hI hI2 hI3 hxe HS2 bP2
          go_upto_region 11 with fail
          refine start_ (n := 8) (S := fun w' => w'.cell? ⟨g + 1, 0, none⟩ = some (.slice Av2 plain.length cv2) ∧ w'.cell? ⟨w.heap.size, 0, none⟩ = some (.slice (some adb) l0.length c0) ∧ w'.cell? (adb.add a) = some (.int .i64 x)) (ds := [6, 7]) #[false, false, false, false, false, false, false, false] (by kernel_rfl) rfl rfl ⟨hz3, hz1, hxb⟩ (fun hHeld => ?_)
          refine pure_ (i := 2) (N := some 44) (v := ?_) (a' := ?_) #[false, false, true, false, false, false, false, false] rfl rfl (by kernel_rfl) (fun _ _ _ h => h) (Or.inl ⟨by rfl, ?_⟩) ?_ ?_
          rotate_left
          · intro w'
            go_simp
            with_reducible rfl
          rotate_left
          · simp only [Act.put, List.setIfInBounds_toArray, List.set_cons_zero, List.set_cons_succ, i64_w, i32_w]
            rfl
          refine take_ (i := 0) (N := some 42) (v := ?_) (a' := ?_) #[true, false, true, false, false, false, false, false] rfl rfl (by kernel_rfl) (fun _ _ _ h => h) (Or.inl ⟨by rfl, ?_⟩) hHeld ?_ ?_
          rotate_left
          · rintro w' ⟨s0, s1, s2⟩
            go_simp
            with_reducible rfl
          rotate_left
          · simp only [Act.put, List.setIfInBounds_toArray, List.set_cons_zero, List.set_cons_succ, i64_w, i32_w]
            rfl
          refine take_ (i := 1) (N := some 43) (v := ?_) (a' := ?_) #[true, true, true, false, false, false, false, false] rfl rfl (by kernel_rfl) (fun _ _ _ h => h) (Or.inl ⟨by rfl, ?_⟩) hHeld ?_ ?_
          rotate_left
          · rintro w' ⟨s0, s1, s2⟩
            go_simp
            with_reducible rfl
          rotate_left
          · simp only [Act.put, List.setIfInBounds_toArray, List.set_cons_zero, List.set_cons_succ, i64_w, i32_w]
            rfl
          refine pure_ (i := 3) (N := some 45) (v := ?_) (a' := ?_) #[true, true, true, true, false, false, false, false] rfl rfl (by kernel_rfl) (fun _ _ _ h => h) (Or.inl ⟨by rfl, ?_⟩) ?_ ?_
          rotate_left
          · intro w'
            go_simp
            with_reducible rfl
          rotate_left
          · simp only [Act.put, List.setIfInBounds_toArray, List.set_cons_zero, List.set_cons_succ, i64_w, i32_w]
            rfl
          refine take_ (i := 4) (N := some 46) (v := ?_) (a' := ?_) #[true, true, true, true, true, false, false, false] rfl rfl (by kernel_rfl) (fun _ _ _ h => h) (Or.inl ⟨by rfl, ?_⟩) hHeld ?_ ?_
          rotate_left
          · rintro w' ⟨s0, s1, s2⟩
            go_simp
            with_reducible rfl
          rotate_left
          · simp only [Act.put, List.setIfInBounds_toArray, List.set_cons_zero, List.set_cons_succ, i64_w, i32_w]
            rfl
          refine one_ (i := 5) (N := some 47) #[true, true, true, true, true, true, false, false] rfl rfl (by kernel_rfl) (by decide) (fun K hK => ?_)
          refine value_ (w1 := ?_) (v := ?_) (by rfl) rfl ?_ ?_
          rotate_left 2
          · go_simp
            constructor
            · rfl
            · rfl
          refine hK.out _ _ ⟨cell_on hz3 _, cell_on hz1 _, cell_on hxb _⟩ (fun hHeld => ?_)
          clear hK K
          refine norm_ (a' := ?_) ?_ ?_
          rotate_left
          · show Act.put _ (some 47) _ = _
            simp only [Act.put, List.setIfInBounds_toArray, List.set_cons_zero, List.set_cons_succ, i64_w, i32_w]
            rfl
          refine last_ (i := 6) (N := some 48) #[true, true, true, true, true, true, true, false] rfl rfl (by kernel_rfl) (by decide) (fun K hK => ?_)
          refine append_known_step (by rfl) _ _ 22 rfl rfl rfl run1 ?_
          refine hK.out _ _ ?_
          clear hK K
          refine norm_ (a' := ?_) ?_ ?_
          rotate_left
          · show Act.put _ (some 48) _ = _
            simp only [Act.put, List.setIfInBounds_toArray, List.set_cons_zero, List.set_cons_succ, i64_w, i32_w]
            rfl
          refine last_ (i := 7) (N := none) #[true, true, true, true, true, true, true, true] rfl rfl (by kernel_rfl) (by decide) (fun K hK => ?_)
          refine skip_ (w1 := ?_) (by rfl) rfl ?_ ?_
          rotate_left
          · go_simp
            rfl
          refine hK.out _ _ ?_
          clear hK K
          refine done_ (by kernel_rfl) ?_
          have hI4 := HI3.out
          clear hz1 hz2 hz3 hz4 hz5 hf5 run1 hxb
          generalize W2.setCell ⟨g + 1, 0, none⟩ (Value.slice Av3 n3 cv3) = W4 at hI4 ⊢
          have HI4 := Aside0.mk hI4
          have hsee := see_calls (a : Int) w.heap.size (g + 1 + 1 + 1) (g + 1 + 1) w.heap.size (some adb) c0 l0 (seenF l0 a) es2 clock2 W4 hI4.bI hI4.bS (Kd.C_below HR0.out hI4.below) HC0.out hI4.S (by omega) (by omega) (by have := HCA.out; omega) HBB.out (fun q => by have := seenF_len l0 a q; have := HCA.out; omega) hI4.below.size
          clear hI4 HI3
          go_wp2_with (go_at_call 42; refine hsee.mono ?_; rintro e w5 ⟨rfl, hsr⟩; have HSR := Aside0.mk hsr; clear hsr)
          go_roundg k1
          case measure => omega
          case rel =>
            obtain ⟨es5, clock5, hI5⟩ := pack_see HI4.out HG.out HSR.out
            refine ⟨a + 1, out, plain ++ [x], by simp, ⟨?_⟩, ⟨?_⟩, ⟨⟨_, _, _, _, hI5⟩⟩⟩
            · have hp := HP.out
              rw [← HB2.out, if_pos cb, ← HXE.out] at hp
              exact hp
            · have := HL.out
              have := HCA.out
              rw [List.length_append, List.length_singleton]
              omega
        · have d4 : decide (lg < 3) = false := decide_eq_false cb
          have hR := best2_rng HL.out.1 HB2.out
          have HRG := Aside0.mk hR
          have hfl := flush_calls (g + 1) g w.heap.size Av2 cv2 plain out vo wc (by omega) hI.bP hI.bO hI.rP hI.rO hI.nOP hI.below.size (by have := HL.out; omega) (by have := HL.out; omega)
          have w61 : wrap64 (lg + 61) = lg + 61 := by unfold wrap64; omega
          have w61' : IntKind.i64.wrap (lg + 61) = lg + 61 := (i64_w _).trans w61
          have HI := Aside0.mk hI
          clear hI hz1 hz2 hz3 hz4 HS2
          go_upto_region 15 with (go_at_call 40; refine hfl.mono ?_; rintro e w5 ⟨rfl, vf, hfr⟩; have HFR := Aside0.mk hfr; clear hfr)
          have hI5 := pack_flush HI.out HG.out HFR.out
          obtain ⟨Av5, cv5, hv5⟩ := Kd.R_slice hI5.rO
          subst hv5
          obtain ⟨n5, hn5⟩ : ∃ n5, n5 = (out ++ outP plain).length := ⟨_, rfl⟩
          rw [← hn5] at hI5
          clear hn5
          obtain ⟨v6, W6, run6, bO6, hI6⟩ := pack_out hI5 (lg + 61) bk (by have := HL.out; have := outP_len plain; rw [List.length_append]; omega) HG.out
          obtain ⟨Av6, cv6, hv6⟩ := Kd.R_slice hI6.rO
          subst hv6
          obtain ⟨n6, hn6⟩ : ∃ n6, n6 = (out ++ outP plain ++ [lg + 61, bk]).length := ⟨_, rfl⟩
          rw [← hn6] at hI6 run6
          clear hn6
          have hz5 := hI5.bO.cell
          have hz6 := bO6.cell
          have hf6 := bO6.frozen
          have HI6 := Aside0.mk hI6
          clear hI5 hI6 bO6 hfl
          go_upto_region 16 with (at_builtin; refine wpList_append_known rfl _ _ 22 rfl rfl rfl run6 ?_)
          have HI7 := Aside0.mk (show PackS w g A0 c0 l0 a (out ++ outP plain ++ [lg + 61, bk]) [] (W6.setCell ⟨g, 0, none⟩ (.slice Av6 n6 cv6)) from ⟨_, _, _, _, HI6.out⟩)
          clear HI6 run6 hz5 hz6 hf6 HI HFR
          generalize W6.setCell ⟨g, 0, none⟩ (Value.slice Av6 n6 cv6) = W7 at *
          go_wp2
          go_loopg [8, 63] (lg.toNat + 1) (fun kq v8 v63 w' => ∃ (b j : Nat), v8 = .int .i64 (b : Int) ∧ v63 = .int .i64 (j : Int) ∧ Aside0 (b = a + j ∧ kq + j = lg.toNat + 1 ∧ j ≤ lg.toNat) ∧ Aside0 (PackS w g A0 c0 l0 b (out ++ outP plain ++ [lg + 61, bk]) [] w'))
          case atStart => exact ⟨a, 0, rfl, rfl, ⟨by omega, by omega, by omega⟩, HI7⟩
          case round =>
            obtain ⟨b, j, rfl, rfl, HJ, HSb⟩ := hrel
            cases gk with
            | zero => exact absurd HJ.out (by omega)
            | succ k2 =>
            clear HI7
            obtain ⟨vo, vp, es3, clock3, hI⟩ := HSb.out
            have hz1 := hI.bI.cell
            have hz4 := hI.bS.cell
            have wb : wrap64 ((b : Int) + 1) = (b : Int) + 1 := by have := HJ.out; have := HL.out; have := HRG.out; unfold wrap64; omega
            have wj : wrap64 ((j : Int) + 1) = (j : Int) + 1 := by have := HJ.out; have := HL.out; have := HRG.out; unfold wrap64; omega
            have HIb := Aside0.mk hI
            by_cases cj : (j : Int) < lg
            · have d5 : decide ((j : Int) < lg) = true := decide_eq_true cj
              have HCJ := Aside0.mk cj
              have hsee := see_calls (b : Int) w.heap.size (g + 1 + 1 + 1) (g + 1 + 1) w.heap.size A0 c0 l0 (seenF l0 b) es3 clock3 wr hI.bI hI.bS (Kd.C_below HR0.out hI.below) HC0.out hI.S (by omega) (by omega) (by have := HJ.out; have := HRG.out; omega) HBB.out (fun q => by have := seenF_len l0 b q; have := HJ.out; have := HRG.out; omega) hI.below.size
              clear hI hz1 hz4 HSb
              go_wp2_with (go_at_call 42; refine hsee.mono ?_; rintro e w8 ⟨rfl, hsr⟩; have HSR := Aside0.mk hsr; clear hsr)
              go_roundg k2
              case measure => omega
              case rel =>
                obtain ⟨es5, clock5, hI5⟩ := pack_see HIb.out HG.out HSR.out
                refine ⟨b + 1, j + 1, by simp [wb], by simp [wj], ⟨?_⟩, ⟨⟨_, _, _, _, hI5⟩⟩⟩
                have := HJ.out
                have := HCJ.out
                omega
            · have d5 : decide ((j : Int) < lg) = false := decide_eq_false cj
              have HCJ := Aside0.mk cj
              clear hI
              go_wp2
              go_roundg k1
              case measure => omega
              case rel =>
                clear w1 w3 w1' w3' w61 w61' wb wj
                have hj := HJ.out
                have hcj := HCJ.out
                have hrg := HRG.out
                have hb : b = a + lg.toNat := by omega
                subst hb
                refine ⟨_, _, _, rfl, ⟨?_⟩, ⟨?_⟩, HSb⟩
                · have hp := HP.out
                  rw [← HB2.out, if_neg (by omega)] at hp
                  exact hp
                · have := HL.out
                  have := outP_len plain
                  simp only [List.length_append, List.length_cons, List.length_nil]
                  omega
    · rw [if_neg ca] at hp
      have d1 : decide ((a : Int) < (l0.length : Int)) = false := decide_eq_false (by omega)
      have d1n : decide (a < l0.length) = false := decide_eq_false ca
      have hI := HI.out
      have hfl := flush_calls (g + 1) g w.heap.size Av cv plain out (.slice Aw out.length cw) wr (by omega) hI.bP hI.bO hI.rP hI.rO hI.nOP hI.below.size (by have := HL.out; omega) (by have := HL.out; omega)
      have HPN := Aside0.mk hp
      clear hI hp hz2 hz3 hz4
      go_upto_region 22 with (go_at_call 40; refine hfl.mono ?_; rintro e w5 ⟨rfl, vf, hfr⟩; have HFR := Aside0.mk hfr; clear hfr)
      have hI5 := pack_flush HI.out HG.out HFR.out
      have hz5 := hI5.bO.cell
      have HI5 := Aside0.mk hI5
      clear hI5 hfl HI HFR hz1
      go_wp2
      go_ret
      injection HPN.out with e
      subst e
      exact ⟨_, rfl, HI5.out.rO, HI5.out.below⟩
end Go.Proofs.Ytjbgbnngfbhmjaa.Pk
