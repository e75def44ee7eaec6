-- Written by this session's program wip/ownprint.py.
import Derived.Test.YtmpnedpokdaejaaQFnOldTornx0
import Derived.Test.YtmpnedpokdaejaaQFnOldTornx3
import Derived.Test.YtmpnedpokdaejaaQFnOldTornx4
import Derived.Test.YtmpnedpokdaejaaQFnOldTornx5
namespace Go.Proofs.Ytmpnedpokdaejaa.QFnOldTorn
open Go.RowKit Go.Proofs.YtmpnedpokdaejaaW.PrintWords Go.Proofs.YtmpnedpokdaejaaW.PrintLast Go.Proofs.YtmpnedpokdaejaaW.PrintMore
attribute [local go_sem] max2_int min2_int max_two min_two max_three min_three max_four min_four   -- for this text's walks alone
set_option linter.unusedVariables false
set_option linter.unusedSimpArgs false

/-! ### impl_OldFrom: function 16 -/
theorem results_tmp4 {fn : Func} {t u v x : Tmp} (h : fn.results = #[.tmp t,.tmp u,.tmp v,.tmp x]) (tmps : Array Value) (P : Program) (w : World) :
    (results fn tmps).run P w = .ok (.tuple #[tmps.getD t undef,tmps.getD u undef,tmps.getD v undef,tmps.getD x undef]) w:=by
  simp [results,h]
theorem cut_drop (A : Option Addr) (c : Nat) (xs : List Int) (j : Int) (h0 : 0 ≤ j) (hm : j ≤ xs.length) (hc : xs.length ≤ c) :
    ∃ (A' : Option Addr) (c' : Nat) (rs : List Int),rs=xs.drop j.toNat∧(∀ W : World,(Instr.slice 23 (.slice A xs.length c) (some (.int .i64 j)) none none).run Try.prog W = .ok (.slice A' rs.length c') W) ∧
      (∀ w : World,Kd.C (Kd.int .i64) w A xs.length xs→Kd.C (Kd.int .i64) w A' rs.length rs)∧rs.length ≤ c':=by
  obtain ⟨i0,hi0,_,hsz,_⟩:=info_parts info3
  obtain ⟨A',hcut,hA,hC⟩:=print_drop_of (P:=Try.prog) (Value.int .i64) 0 23 3 .i64 Try.underlying23 hi0 hsz A c xs j h0 hm hc
  exact ⟨A',_,_,rfl,hcut,fun w h=>Kd.C_of_reads (h1:=fun _=>rfl) (hA _ (Kd.reads_of_C h)),hC⟩
theorem cut_take (A : Option Addr) (c : Nat) (xs : List Int) (j : Int) (h0 : 0 ≤ j) (hm : j ≤ xs.length) (hc : xs.length ≤ c) :
    ∃ rs : List Int,rs=xs.take j.toNat∧(∀ W : World,(Instr.slice 23 (.slice A xs.length c) none (some (.int .i64 j)) none).run Try.prog W = .ok (.slice A rs.length c) W) ∧
      (∀ w : World,Kd.C (Kd.int .i64) w A xs.length xs→Kd.C (Kd.int .i64) w A rs.length rs)∧rs.length ≤ c:=by
  obtain ⟨i0,hi0,_,hsz,_⟩:=info_parts info3
  obtain ⟨hcut,hA,hC⟩:=print_take_of (P:=Try.prog) (Value.int .i64) 0 23 3 .i64 Try.underlying23 hi0 hsz A c xs j h0 hm hc
  exact ⟨_,rfl,hcut,fun w h=>Kd.C_of_reads (h1:=fun _=>rfl) (hA _ (Kd.reads_of_C h)),hC⟩
def impl_oldPartFrom.f (l0 : List Int) : Option (Bool × List Int × List Int × Bool) :=
  if l0.length=0 then some (false,[],[],false) else
  if rd l0 0=255 then some (false,[],l0.drop 1,true) else
  if rd l0 0 > 12 then some (false,[],[],false) else
  if rd l0 0 > ((l0.drop 1).length : Int) then some (false,[],[],false) else
  if 0 ≤ rd l0 0 then some (true,(l0.drop 1).take (rd l0 0).toNat,(l0.drop 1).drop (rd l0 0).toNat,true) else none
set_option maxHeartbeats 4000000 in
set_option maxRecDepth 100000 in
theorem oldPartFrom_calls (A0 : Option Addr) (c0 : Nat) (l0 : List Int) (r1 : Bool) (r2 r3 : List Int) (r4 : Bool) (w : World) (hr0 : Kd.C (Kd.int .i64) w A0 l0.length l0) (hc0 : l0.length ≤ c0) (h : impl_oldPartFrom.f l0=some (r1,r2,r3,r4)) :
    Calls Try.prog 52 #[.slice A0 l0.length c0] w fun e w'=>∃ (v2 : Value) (A3 : Option Addr) (c3 : Nat),e = .returned (.tuple #[.bool r1,v2,.slice A3 r3.length c3,.bool r4])∧Kd.R (Kd.int .i64) 3 w' w.heap.size (fun _=>True) v2 r2∧Kd.C (Kd.int .i64) w A3 r3.length r3∧r3.length ≤ c3∧Below w.heap.size w w':=by
  unfold impl_oldPartFrom.f at h
  have nilC : Kd.C (Kd.int .i64) w none ([] : List Int).length []:=Kd.C_nil _ _
  by_cases c1 : l0.length=0
  · rw [if_pos c1] at h
    simp only [Option.some.injEq,Prod.mk.injEq] at h
    obtain ⟨rfl,rfl,rfl,rfl⟩:=h
    have n1 : ((l0.length : Int) == 0)=true:=by simpa using c1
    go_enter Try.func52,Try.ntmps52
    go_wp2
    ((try simp only [Exit.inBlock,Exit.then]);refine bodyPost_ret (results_tmp4 rfl _ _ _) rfl ?_)
    exact ⟨_,_,_,rfl,Kd.R_nil _ _ _ _ _,nilC,by simp,by repeat (first|exact Below.refl _ _|apply pw_below_drewN)⟩
  rw [if_neg c1] at h
  obtain ⟨ad,e1,hx0⟩:=Kd.at_int hr0 0 (by decide) (by omega)
  cases e1
  have hx : w.cell? ad=some (.int .i64 (rd l0 0)):=by simpa [Addr.add] using hx0
  clear hx0
  have z1 : (0 < (l0.length : Int))=True:=eq_true (by omega)
  have n1 : ((l0.length : Int) == 0)=false:=by simpa using c1
  obtain ⟨A1,cc1,rs,hrs,hcut1,hA1,hC1⟩:=cut_drop (some ad) c0 l0 1 (by decide) (by omega) hc0
  have hrs1 : l0.drop 1=rs:=hrs.symm
  rw [hrs1] at h
  clear hrs1 hrs
  have hCr:=hA1 w hr0
  generalize hv : rd l0 0=v at h hx
  by_cases c2 : v=255
  · rw [if_pos c2] at h
    simp only [Option.some.injEq,Prod.mk.injEq] at h
    obtain ⟨rfl,rfl,rfl,rfl⟩:=h
    have n2 : (v == 255)=true:=by simpa using c2
    go_enter Try.func52,Try.ntmps52
    go_wp2
    ((try simp only [Exit.inBlock,Exit.then]);refine bodyPost_ret (results_tmp4 rfl _ _ _) rfl ?_)
    exact ⟨_,_,_,rfl,Kd.R_nil _ _ _ _ _,hCr,hC1,by repeat (first|exact Below.refl _ _|apply pw_below_drewN)⟩
  rw [if_neg c2] at h
  have n2 : (v == 255)=false:=by simpa using c2
  by_cases c3 : v > 12
  · rw [if_pos c3] at h
    simp only [Option.some.injEq,Prod.mk.injEq] at h
    obtain ⟨rfl,rfl,rfl,rfl⟩:=h
    have n3 : decide (12 < v)=true:=decide_eq_true c3
    go_enter Try.func52,Try.ntmps52
    go_wp2
    ((try simp only [Exit.inBlock,Exit.then]);refine bodyPost_ret (results_tmp4 rfl _ _ _) rfl ?_)
    exact ⟨_,_,_,rfl,Kd.R_nil _ _ _ _ _,nilC,by simp,by repeat (first|exact Below.refl _ _|apply pw_below_drewN)⟩
  rw [if_neg c3] at h
  have n3 : decide (12 < v)=false:=decide_eq_false c3
  by_cases c4 : v > (rs.length : Int)
  · rw [if_pos c4] at h
    simp only [Option.some.injEq,Prod.mk.injEq] at h
    obtain ⟨rfl,rfl,rfl,rfl⟩:=h
    have n4 : decide ((rs.length : Int) < v)=true:=decide_eq_true c4
    go_enter Try.func52,Try.ntmps52
    go_wp2
    ((try simp only [Exit.inBlock,Exit.then]);refine bodyPost_ret (results_tmp4 rfl _ _ _) rfl ?_)
    first|exact ⟨.slice none 0 0,none,0,rfl,Kd.R_nil _ _ _ _ _,nilC,by simp,by repeat (first|exact Below.refl _ _|apply pw_below_drewN)⟩|exact ⟨_,none,⟨0,rfl⟩,Kd.R_nil _ _ _ _ _,nilC,by repeat (first|exact Below.refl _ _|apply pw_below_drewN)⟩|trace_state
  rw [if_neg c4] at h
  have n4 : decide ((rs.length : Int) < v)=false:=decide_eq_false c4
  by_cases c5 : 0 ≤ v
  · rw [if_pos c5] at h
    simp only [Option.some.injEq,Prod.mk.injEq] at h
    obtain ⟨rfl,rfl,rfl,rfl⟩:=h
    obtain ⟨A2,cc2,ds,hds,hcut2,hA2,hC2⟩:=cut_drop A1 cc1 rs v c5 (by omega) hC1
    obtain ⟨ts,hts,hcut3,hA3,hC3⟩:=cut_take A1 cc1 rs v c5 (by omega) hC1
    have hlm : ts.length < 17592186044416:=by rw [hts,List.length_take];omega
    rw [← hds, ← hts]
    have hK : slices_Clone_int_int.f ts=some ts:=by unfold slices_Clone_int_int.f;rw [if_pos hlm]
    have hT:=hA3 w hCr
    have hD:=hA2 w hCr
    clear hds hts hlm
    go_enter Try.func52,Try.ntmps52
    go_wp2
    go_region_with (go_at_call 75;refine (slices_Clone_int_int.calls A1 cc1 ts ts _ (by first|exact hT|(with_reducible refine Kd.C_drewN ?_ _;exact hT)) hC3 hK).mono ?_;rintro e w' ⟨v2,rfl,ho,hb⟩)
    all_goals
      go_wp2
      ((try simp only [Exit.inBlock,Exit.then]);refine bodyPost_ret (results_tmp4 rfl _ _ _) rfl ?_)
      exact ⟨_,_,_,rfl,ho,hD,hC2,by first|exact hb|exact below_step (pw_below_drewN (Below.refl _ _) _) hb|exact pw_below_drewN (below_step (pw_below_drewN (Below.refl _ _) _) hb) _⟩
  · rw [if_neg c5] at h
    exact absurd h (by simp)
theorem old_set7 {w : World} {g : Nat} {a0 a1 a2 a3 a4 a5 a6 : Value} (h : w.heap[g]? = some (.cells #[a0,a1,a2,a3,a4,a5,a6] 26 (0,0))) (b0 b1 b2 b3 b4 b5 b6 : Value) :
    (((((((w.setCell ⟨g,0,none⟩ b0).setCell ⟨g,1,none⟩ b1).setCell ⟨g,2,none⟩ b2).setCell ⟨g,3,none⟩ b3).setCell ⟨g,4,none⟩ b4).setCell ⟨g,5,none⟩ b5).setCell ⟨g,6,none⟩ b6).heap[g]? = some (.cells #[b0,b1,b2,b3,b4,b5,b6] 26 (0,0)):=by
  have h0 : (w.setCell ⟨g,0,none⟩ b0).heap[g]? = some (.cells #[b0,a1,a2,a3,a4,a5,a6] 26 (0,0)):=blk_put (cs:=#[a0,a1,a2,a3,a4,a5,a6]) (cs':=#[b0,a1,a2,a3,a4,a5,a6]) h 0 b0 rfl
  generalize w.setCell ⟨g,0,none⟩ b0=W0 at h0 ⊢
  have h1 : (W0.setCell ⟨g,1,none⟩ b1).heap[g]? = some (.cells #[b0,b1,a2,a3,a4,a5,a6] 26 (0,0)):=blk_put (cs:=#[b0,a1,a2,a3,a4,a5,a6]) (cs':=#[b0,b1,a2,a3,a4,a5,a6]) h0 1 b1 rfl
  generalize W0.setCell ⟨g,1,none⟩ b1=W1 at h1 ⊢
  have h2 : (W1.setCell ⟨g,2,none⟩ b2).heap[g]? = some (.cells #[b0,b1,b2,a3,a4,a5,a6] 26 (0,0)):=blk_put (cs:=#[b0,b1,a2,a3,a4,a5,a6]) (cs':=#[b0,b1,b2,a3,a4,a5,a6]) h1 2 b2 rfl
  generalize W1.setCell ⟨g,2,none⟩ b2=W2 at h2 ⊢
  have h3 : (W2.setCell ⟨g,3,none⟩ b3).heap[g]? = some (.cells #[b0,b1,b2,b3,a4,a5,a6] 26 (0,0)):=blk_put (cs:=#[b0,b1,b2,a3,a4,a5,a6]) (cs':=#[b0,b1,b2,b3,a4,a5,a6]) h2 3 b3 rfl
  generalize W2.setCell ⟨g,3,none⟩ b3=W3 at h3 ⊢
  have h4 : (W3.setCell ⟨g,4,none⟩ b4).heap[g]? = some (.cells #[b0,b1,b2,b3,b4,a5,a6] 26 (0,0)):=blk_put (cs:=#[b0,b1,b2,b3,a4,a5,a6]) (cs':=#[b0,b1,b2,b3,b4,a5,a6]) h3 4 b4 rfl
  generalize W3.setCell ⟨g,4,none⟩ b4=W4 at h4 ⊢
  have h5 : (W4.setCell ⟨g,5,none⟩ b5).heap[g]? = some (.cells #[b0,b1,b2,b3,b4,b5,a6] 26 (0,0)):=blk_put (cs:=#[b0,b1,b2,b3,b4,a5,a6]) (cs':=#[b0,b1,b2,b3,b4,b5,a6]) h4 5 b5 rfl
  generalize W4.setCell ⟨g,5,none⟩ b5=W5 at h5 ⊢
  have h6 : (W5.setCell ⟨g,6,none⟩ b6).heap[g]? = some (.cells #[b0,b1,b2,b3,b4,b5,b6] 26 (0,0)):=blk_put (cs:=#[b0,b1,b2,b3,b4,b5,a6]) (cs':=#[b0,b1,b2,b3,b4,b5,b6]) h5 6 b6 rfl
  generalize W5.setCell ⟨g,6,none⟩ b6=W6 at h6 ⊢
  exact h6
theorem of_end {R : Ending→World→Prop} {tmps : Array Value} {w : World} (g : Nat) (cs : Array Value) (b : Bool) (hp : tmps.getD 2 undef = .pointer (some ⟨g,0,none⟩)) (hq : tmps.getD 3 undef = .bool b) (hs : cs.size=7)
    (hg : w.heap[g]? = some (.cells cs 26 (0,0))) (hR : R (.returned (.tuple #[.agg cs,.bool b])) w) : bodyPost Try.prog Try.f16 R .ret ⟨tmps,[]⟩ w:=by
  refine bodyPost_ret (results_ct (fn:=Try.f16) (p:=2) (u:=3) (ty:=26) rfl tmps w g 26 cs (0,0) _ hp hg Try.underlying26 rfl (by rw [hs];kernel_rfl)) rfl ?_
  rw [hq]
  exact hR
theorem drawn_blk {w w1 : World} {g : Nat} {o : Obj} (h : w.heap[g]? = some o) (hd : Drawn0 w w1) : w1.heap[g]? = some o:=by
  obtain ⟨n,rfl⟩:=hd
  exact blk_drewN h n
theorem drawn_below {n : Nat} {w0 w w1 : World} (h : Below n w0 w) (hd : Drawn0 w w1) : Below n w0 w1:=by
  obtain ⟨m,rfl⟩:=hd
  exact pw_below_drewN h m
theorem R_flat_int {w : World} {base : Nat} {ok ok' : Nat→Prop} {v : Value} {xs : List Int} (h : Kd.R (Kd.int .i64) 3 w base ok v xs) (hok : ∀ k,v.ownBlock=some k→ok k→ok' k) : Kd.R (Kd.int .i64) 3 w base ok' v xs :=
  ⟨fun k hk=>hok k hk (h.1 k hk),h.2.imp_ (fun _ _ hp=>hp)⟩
theorem R_own_reads {w : World} {base : Nat} {ok : Nat→Prop} {A : Option Addr} {c : Nat} {xs : List Int} (h : Kd.R (Kd.int .i64) 3 w base ok (.slice A xs.length c) xs) : xs.length ≤ c∧Kd.C (Kd.int .i64) w A xs.length xs:=by
  obtain ⟨A',c',e,hl,hC⟩:=Kd.R_reads h
  cases e
  exact ⟨hl,hC⟩
theorem not26 : ∀ q,q ∈ (3 : Nat) :: (Kd.int .i64).E→q ≠ 26:=by
  intro q hq
  simp [Kd.int,Kd.scalar] at hq
  omega
theorem R_set26 {w : World} {base : Nat} {ok : Nat→Prop} {v : Value} {xs : List Int} (h : Kd.R (Kd.int .i64) 3 w base ok v xs) {g : Nat} {cells : Array Value} (hb : w.heap[g]? = some (.cells cells 26 (0,0))) (j : Nat) (u : Value) : Kd.R (Kd.int .i64) 3 (w.setCell ⟨g,j,none⟩ u) base ok v xs :=
  Kd.R_set h hb not26 j u
theorem R_set7 {w : World} {g base : Nat} {ok : Nat→Prop} {v : Value} {xs : List Int} {a0 a1 a2 a3 a4 a5 a6 : Value} (h : w.heap[g]? = some (.cells #[a0,a1,a2,a3,a4,a5,a6] 26 (0,0))) (r : Kd.R (Kd.int .i64) 3 w base ok v xs) (b0 b1 b2 b3 b4 b5 b6 : Value) :
    Kd.R (Kd.int .i64) 3 (((((((w.setCell ⟨g,0,none⟩ b0).setCell ⟨g,1,none⟩ b1).setCell ⟨g,2,none⟩ b2).setCell ⟨g,3,none⟩ b3).setCell ⟨g,4,none⟩ b4).setCell ⟨g,5,none⟩ b5).setCell ⟨g,6,none⟩ b6) base ok v xs:=by
  have r0:=R_set26 r h 0 b0
  have h0 : (w.setCell ⟨g,0,none⟩ b0).heap[g]? = some (.cells #[b0,a1,a2,a3,a4,a5,a6] 26 (0,0)):=blk_put (cs:=#[a0,a1,a2,a3,a4,a5,a6]) (cs':=#[b0,a1,a2,a3,a4,a5,a6]) h 0 b0 rfl
  generalize w.setCell ⟨g,0,none⟩ b0=W0 at h0 r0 ⊢
  have r1:=R_set26 r0 h0 1 b1
  have h1 : (W0.setCell ⟨g,1,none⟩ b1).heap[g]? = some (.cells #[b0,b1,a2,a3,a4,a5,a6] 26 (0,0)):=blk_put (cs:=#[b0,a1,a2,a3,a4,a5,a6]) (cs':=#[b0,b1,a2,a3,a4,a5,a6]) h0 1 b1 rfl
  generalize W0.setCell ⟨g,1,none⟩ b1=W1 at h1 r1 ⊢
  have r2:=R_set26 r1 h1 2 b2
  have h2 : (W1.setCell ⟨g,2,none⟩ b2).heap[g]? = some (.cells #[b0,b1,b2,a3,a4,a5,a6] 26 (0,0)):=blk_put (cs:=#[b0,b1,a2,a3,a4,a5,a6]) (cs':=#[b0,b1,b2,a3,a4,a5,a6]) h1 2 b2 rfl
  generalize W1.setCell ⟨g,2,none⟩ b2=W2 at h2 r2 ⊢
  have r3:=R_set26 r2 h2 3 b3
  have h3 : (W2.setCell ⟨g,3,none⟩ b3).heap[g]? = some (.cells #[b0,b1,b2,b3,a4,a5,a6] 26 (0,0)):=blk_put (cs:=#[b0,b1,b2,a3,a4,a5,a6]) (cs':=#[b0,b1,b2,b3,a4,a5,a6]) h2 3 b3 rfl
  generalize W2.setCell ⟨g,3,none⟩ b3=W3 at h3 r3 ⊢
  have r4:=R_set26 r3 h3 4 b4
  have h4 : (W3.setCell ⟨g,4,none⟩ b4).heap[g]? = some (.cells #[b0,b1,b2,b3,b4,a5,a6] 26 (0,0)):=blk_put (cs:=#[b0,b1,b2,b3,a4,a5,a6]) (cs':=#[b0,b1,b2,b3,b4,a5,a6]) h3 4 b4 rfl
  generalize W3.setCell ⟨g,4,none⟩ b4=W4 at h4 r4 ⊢
  have r5:=R_set26 r4 h4 5 b5
  have h5 : (W4.setCell ⟨g,5,none⟩ b5).heap[g]? = some (.cells #[b0,b1,b2,b3,b4,b5,a6] 26 (0,0)):=blk_put (cs:=#[b0,b1,b2,b3,b4,a5,a6]) (cs':=#[b0,b1,b2,b3,b4,b5,a6]) h4 5 b5 rfl
  generalize W4.setCell ⟨g,5,none⟩ b5=W5 at h5 r5 ⊢
  have r6:=R_set26 r5 h5 6 b6
  have h6 : (W5.setCell ⟨g,6,none⟩ b6).heap[g]? = some (.cells #[b0,b1,b2,b3,b4,b5,b6] 26 (0,0)):=blk_put (cs:=#[b0,b1,b2,b3,b4,b5,a6]) (cs':=#[b0,b1,b2,b3,b4,b5,b6]) h5 6 b6 rfl
  generalize W5.setCell ⟨g,6,none⟩ b6=W6 at h6 r6 ⊢
  exact r6
abbrev OldR:=Int × Bool × Int × List Int × List Int × Bool × Bool × Bool
def impl_OldFrom.z : OldR:=(0,false,0,([] : List Int),([] : List Int),false,false,false)
def impl_OldFrom.t2 (k : Nat) (l0 : List Int) (o : Int) (td : Bool) (tm : Int) (q1 : Bool) (key : List Int) (rest : List Int) : Option OldR :=
  (impl_oldPartFrom.f rest).bind fun p=>if p.2.2.2=true then (if p.2.2.1.length=0 then
     (impl_OldValid.f k o td tm key p.2.1 q1 (!p.1)).bind fun v=>if v=true then (impl_Old_bytesOf.f k o td tm key p.2.1 q1 (!p.1)).bind fun bs=>(slices_Equal_int_int.f k bs l0).bind fun e=>if e=true then some (o,td,tm,key,p.2.1,q1, !p.1,true) else some impl_OldFrom.z else some impl_OldFrom.z
   else some impl_OldFrom.z) else some impl_OldFrom.z
def impl_OldFrom.t1 (k : Nat) (l0 : List Int) (o : Int) (td : Bool) (tm : Int) (rest : List Int) : Option OldR :=
  (impl_oldPartFrom.f rest).bind fun p=>if p.2.2.2=true then impl_OldFrom.t2 k l0 o td tm p.1 p.2.1 p.2.2.1 else some impl_OldFrom.z
def impl_OldFrom.t0 (k : Nat) (l0 : List Int) : Option OldR :=
  (impl_intAt.f k l0 0 3).bind fun p=>if rd l0 5=1 then (impl_intAt.f k l0 6 3).bind fun q=>if q.2=true then (if 9 ≤ (l0.length : Int) then impl_OldFrom.t1 k l0 p.1 true q.1 (l0.drop 9) else none) else some impl_OldFrom.z else impl_OldFrom.t1 k l0 p.1 false 0 (l0.drop 6)
def impl_OldFrom.f (k : Nat) (l0 : List Int) : Option OldR :=
  (impl_allBytes.f k l0).bind fun t=>if t=true then (if (l0.length : Int) < 6 then some impl_OldFrom.z else if rd l0 5 > 1 then some impl_OldFrom.z else impl_OldFrom.t0 k l0) else some impl_OldFrom.z
theorem impl_OldFrom.mono : ∀ a0 k,LeO (impl_OldFrom.f k a0) (impl_OldFrom.f (k + 1) a0):=by
  intro a0 k
  unfold impl_OldFrom.f impl_OldFrom.t0 impl_OldFrom.t1 impl_OldFrom.t2
  repeat' first
      | (with_reducible exact impl_allBytes.mono _ _)
      | (with_reducible exact impl_intAt.mono _ _ _ _)
      | (with_reducible exact impl_OldValid.mono _ _ _ _ _ _ _ _)
      | (with_reducible exact impl_Old_bytesOf.mono _ _ _ _ _ _ _ _)
      | (with_reducible exact slices_Equal_int_int.mono _ _ _)
      | (with_reducible exact LeO.refl _)
      | (with_reducible exact LeO.none _)
      | (with_reducible refine LeO.ite ?_ ?_)
      | (with_reducible refine LeO.bind ?_ (fun _=>?_))
set_option maxHeartbeats 1600000 in
set_option maxRecDepth 100000 in
theorem impl_OldFrom.calls (k : Nat) (A0 : Option Addr) (c0 : Nat) (l0 : List Int) (r1 : Int) (r2 : Bool) (r3 : Int) (r4 : List Int) (r5 : List Int) (r6 : Bool) (r7 : Bool) (r8 : Bool) (w : World) (hr0 : Kd.C (Kd.int .i64) w A0 l0.length l0) (hc0 : l0.length ≤ c0) (h : impl_OldFrom.f k l0=some (r1,r2,r3,r4,r5,r6,r7,r8)) :
    Calls Try.prog 16 #[.slice A0 l0.length c0] w fun e w'=>∃ v3_ v4_ : Value,e = .returned (.tuple #[.agg #[.int .i64 r1,.bool r2,.int .i64 r3,v3_,v4_,.bool r6,.bool r7],.bool r8])∧Kd.R (Kd.int .i64) 3 w' w.heap.size (fun k_=>some k_ ≠ (v4_ : Value).ownBlock) v3_ r4∧Kd.R (Kd.int .i64) 3 w' w.heap.size (fun k_=>some k_ ≠ (v3_ : Value).ownBlock) v4_ r5∧Below w.heap.size w w':=by
  have hu26:=Try.underlying26
  have HR0:=Aside0.mk hr0
  have HC0:=Aside0.mk hc0
  have HB:=Aside0.mk (Below.refl w.heap.size w)
  obtain ⟨t,A1_,H⟩:=Option.bind_eq_some_iff.mp h
  have A1:=Aside0.mk A1_
  have H1:=Aside0.mk H
  clear hr0 hc0 h A1_ H
  go_enter Try.func16,Try.ntmps16
  go_upto_region 1 with (first|((with_reducible refine gate_dst (N:=2) rfl ?_);(try (refine gate_guard (by rfl) ?_;dsimp only));refine box_event ?hg (N:=2) ?hd (cs:=#[.int .i64 0,.bool false,.int .i64 0,.slice none 0 0,.slice none 0 0,.bool false,.bool false]) (t:=26) ?hr ?_;(case hd=>rfl);(case hg=>rfl);(case hr=>first|(go_simp;done)|(go_simp;rfl));intro g0 hg w3 hbox hb;have n0_:=Aside0.mk (below_step HB.out hb);have BK0:=Aside0.mk (hbox);have GE0:=Aside0.mk ((by rw [hg];exact (below_size HB.out)) : w.heap.size ≤ g0);clear HB;have HB:=n0_;clear n0_ hb hbox hg))
  (try simp only [Act.put,List.setIfInBounds_toArray,List.set_cons_zero,List.set_cons_succ])
  go_cut [26] (fun v26 wc=>∃ b : Bool,v26 = .bool b∧Aside0 ((b=true∧impl_OldFrom.z=(r1,r2,r3,r4,r5,r6,r7,r8)) ∨ (b=false∧impl_OldFrom.t0 k l0=some (r1,r2,r3,r4,r5,r6,r7,r8)∧6 ≤ (l0.length : Int)∧rd l0 5 ≤ 1))∧Aside0 (wc.heap[g0]? = some (.cells #[.int .i64 0,.bool false,.int .i64 0,.slice none 0 0,.slice none 0 0,.bool false,.bool false] 26 (0,0)))∧Aside0 (Below w.heap.size w wc))
  case first =>
    have H:=H1.out
    clear H1
    cases t with
    | false =>
      have H':=Aside0.mk (show impl_OldFrom.z=(r1,r2,r3,r4,r5,r6,r7,r8) by simpa using H)
      clear H
      go_wp2_with (go_at_call 50;refine (impl_allBytes.calls k _ _ l0 false _ (Kd.C_below HR0.out HB.out) HC0.out A1.out).mono ?_;rintro e w' ⟨rfl,⟨nd,rfl⟩⟩)
      go_meet
      case rel=>exact ⟨true,by first|rfl|(simp;done),⟨.inl ⟨rfl,H'.out⟩⟩,⟨blk_drewN BK0.out _⟩,⟨pw_below_drewN HB.out _⟩⟩
    | true =>
      rw [if_pos rfl] at H
      by_cases c1 : (l0.length : Int) < 6
      · rw [if_pos c1] at H
        have H':=Aside0.mk (show impl_OldFrom.z=(r1,r2,r3,r4,r5,r6,r7,r8) by simpa using H)
        have d1 : decide ((l0.length : Int) < 6)=true:=decide_eq_true c1
        clear H
        go_wp2_with (go_at_call 50;refine (impl_allBytes.calls k _ _ l0 true _ (Kd.C_below HR0.out HB.out) HC0.out A1.out).mono ?_;rintro e w' ⟨rfl,⟨nd,rfl⟩⟩)
        go_meet
        case rel=>exact ⟨true,by first|rfl|(simp;done)|(simp [*];done),⟨.inl ⟨rfl,H'.out⟩⟩,⟨blk_drewN BK0.out _⟩,⟨pw_below_drewN HB.out _⟩⟩
      · rw [if_neg c1] at H
        have d1 : decide ((l0.length : Int) < 6)=false:=decide_eq_false c1
        obtain ⟨ad,e1,hx0⟩:=Kd.at_int (Kd.C_below HR0.out HB.out) 5 (by decide) (by omega)
        have x5 : w3.cell? (ad.add 5)=some (.int .i64 (rd l0 5)):=hx0
        have z1 : (5 < (l0.length : Int))=True:=eq_true (by omega)
        cases e1
        clear hx0
        generalize hv : rd l0 5=v at *
        by_cases c2 : v > 1
        · rw [if_pos c2] at H
          have H':=Aside0.mk (show impl_OldFrom.z=(r1,r2,r3,r4,r5,r6,r7,r8) by simpa using H)
          clear H
          have d2 : decide (v > 1)=true:=decide_eq_true c2
          go_wp2_with (go_at_call 50;refine (impl_allBytes.calls k _ _ l0 true _ (Kd.C_below HR0.out HB.out) HC0.out A1.out).mono ?_;rintro e w' ⟨rfl,⟨nd,rfl⟩⟩;have x5d : (w3.drewN nd).cell? (ad.add 5)=some (.int .i64 v):=x5;simp [Addr.add] at x5d)
          go_meet
          case rel=>exact ⟨true,by first|rfl|(simp;done)|(simp [*];done),⟨.inl ⟨rfl,H'.out⟩⟩,⟨blk_drewN BK0.out _⟩,⟨pw_below_drewN HB.out _⟩⟩
        · rw [if_neg c2] at H
          have H':=Aside0.mk H
          clear H
          have d2 : decide (v > 1)=false:=decide_eq_false c2
          go_wp2_with (go_at_call 50;refine (impl_allBytes.calls k _ _ l0 true _ (Kd.C_below HR0.out HB.out) HC0.out A1.out).mono ?_;rintro e w' ⟨rfl,⟨nd,rfl⟩⟩;have x5d : (w3.drewN nd).cell? (ad.add 5)=some (.int .i64 v):=x5;simp [Addr.add] at x5d)
          go_meet
          case rel=>exact ⟨false,by first|rfl|(simp;done)|(simp [*];done),⟨.inr ⟨rfl,H'.out,by omega,by omega⟩⟩,⟨blk_drewN BK0.out _⟩,⟨pw_below_drewN HB.out _⟩⟩
  case rest =>
    obtain ⟨b,rfl,HA,BK0,HB⟩:=hcut
    rcases HA.out with ⟨rfl,hz⟩ | ⟨rfl,H,c6,c5⟩
    · clear HA H1 A1
      simp only [impl_OldFrom.z,Prod.mk.injEq] at hz
      obtain ⟨rfl,rfl,rfl,rfl,rfl,rfl,rfl,rfl⟩:=hz
      have hz_0:=(blk_cell BK0.out 0).trans (show _=some (Value.int .i64 0) from rfl)
      have hz_1:=(blk_cell BK0.out 1).trans (show _=some (Value.bool false) from rfl)
      have hz_2:=(blk_cell BK0.out 2).trans (show _=some (Value.int .i64 0) from rfl)
      have hz_3:=(blk_cell BK0.out 3).trans (show _=some (Value.slice none 0 0) from rfl)
      have hz_4:=(blk_cell BK0.out 4).trans (show _=some (Value.slice none 0 0) from rfl)
      have hz_5:=(blk_cell BK0.out 5).trans (show _=some (Value.bool false) from rfl)
      have hz_6:=(blk_cell BK0.out 6).trans (show _=some (Value.bool false) from rfl)
      have hf_0:=blk_frozen BK0.out 0
      have hf_1:=blk_frozen BK0.out 1
      have hf_2:=blk_frozen BK0.out 2
      have hf_3:=blk_frozen BK0.out 3
      have hf_4:=blk_frozen BK0.out 4
      have hf_5:=blk_frozen BK0.out 5
      have hf_6:=blk_frozen BK0.out 6
      go_wp2
      refine of_end g0 _ false rfl rfl rfl (old_set7 BK0.out _ _ _ _ _ _ _) ?_
      exact ⟨_,_,rfl,Kd.R_nil _ _ _ _ _,Kd.R_nil _ _ _ _ _,by with_reducible exact below_set (below_set (below_set (below_set (below_set (below_set (below_set HB.out GE0.out) GE0.out) GE0.out) GE0.out) GE0.out) GE0.out) GE0.out⟩
    clear HA H1 A1
    obtain ⟨⟨o,okO⟩,A2_,H⟩:=Option.bind_eq_some_iff.mp H
    dsimp only at H
    have A2:=Aside0.mk A2_
    have H2:=Aside0.mk H
    clear A2_ H
    obtain ⟨A6,k6,rs6,hrs6,hcut6,hC6,hk6⟩:=cut_drop A0 c0 l0 6 (by decide) (by omega) HC0.out
    have HC6:=Aside0.mk (hC6 w HR0.out)
    have HK6:=Aside0.mk hk6
    have HRS6:=Aside0.mk hrs6
    have LL:=Aside0.mk (show 6 ≤ (l0.length : Int)∧rd l0 5 ≤ 1 from ⟨c6,c5⟩)
    clear hrs6 hC6 hk6 c6 c5
    go_upto_region 4 with (first|((with_reducible refine gate_dst (N:=4) rfl ?_);(try (refine gate_guard (by rfl) ?_;dsimp only));refine box_event ?hg (N:=4) ?hd (cs:=#[.int .i64 0,.bool false,.int .i64 0,.slice none 0 0,.slice none 0 0,.bool false,.bool false]) (t:=26) ?hr ?_;(case hd=>rfl);(case hg=>rfl);(case hr=>first|(go_simp;done)|(go_simp;rfl));intro g1 hg w4 hbox hb;have BK1:=Aside0.mk (hbox);have GE1:=Aside0.mk ((by rw [hg];exact (below_size HB.out)) : w.heap.size ≤ g1);have NB:=Aside0.mk (show g0 ≠ g1 by rw [hg];exact Nat.ne_of_lt (blk_lt BK0.out));have n1_:=Aside0.mk (blk_below BK0.out hb);have n0_:=Aside0.mk (below_step HB.out hb);clear HB BK0;have HB:=n0_;have BK0:=n1_;clear n0_ n1_ hb hbox hg))
    (try simp only [Act.put,List.setIfInBounds_toArray,List.set_cons_zero,List.set_cons_succ])
    go_upto_region 5 with (go_at_call 51;refine (impl_intAt.calls k _ _ l0 0 3 o okO _ (Kd.C_below HR0.out HB.out) HC0.out A2.out).mono ?_;rintro e w5 ⟨rfl,hd⟩;have n0_:=Aside0.mk (drawn_below HB.out hd);have n1_:=Aside0.mk (drawn_blk BK0.out hd);have n2_:=Aside0.mk (drawn_blk BK1.out hd);clear HB BK0 BK1;have HB:=n0_;have BK0:=n1_;have BK1:=n2_;clear n0_ n1_ n2_ hd;have hz0:=(blk_cell BK1.out 0).trans (show _=some (Value.int .i64 0) from rfl);have hf0:=blk_frozen BK1.out 0)
    have n0_:=Aside0.mk (below_set (j:=0) (v:=.int .i64 o) HB.out GE1.out)
    have n1_:=Aside0.mk (blk_far (p:=⟨g1,0,none⟩) BK0.out NB.out (.int .i64 o))
    have n2_:=Aside0.mk (blk_put (cs':=#[.int .i64 o,.bool false,.int .i64 0,.slice none 0 0,.slice none 0 0,.bool false,.bool false]) BK1.out 0 (.int .i64 o) rfl)
    clear hz0 hf0 A2 HB BK0 BK1
    generalize w5.setCell { block:=g1,off:=0 } (Value.int .i64 o)=w6 at n0_ n1_ n2_ ⊢
    have HB:=n0_
    have BK0:=n1_
    have BK1:=n2_
    clear n0_ n1_ n2_
    obtain ⟨c6,c5⟩:=LL.out
    obtain ⟨ad,e1,hx0⟩:=Kd.at_int (Kd.C_below HR0.out HB.out) 5 (by decide) (by omega)
    have x5 : w6.cell? (ad.add 5)=some (.int .i64 (rd l0 5)):=hx0
    have z1 : (5 < (l0.length : Int))=True:=eq_true (by omega)
    simp [Addr.add] at x5
    cases e1
    clear hx0 c5 LL
    go_upto_if 39 with fail
    go_cut [5] (fun v5 wc=>∃ (A : Option Addr) (c : Nat) (rs : List Int) (td : Bool) (tm : Int),v5 = .slice A rs.length c∧Aside0 (impl_OldFrom.t1 k l0 o td tm rs=some (r1,r2,r3,r4,r5,r6,r7,r8))∧Aside0 (Kd.C (Kd.int .i64) w A rs.length rs∧rs.length ≤ c)∧Aside0 (wc.heap[g0]? = some (.cells #[.int .i64 0,.bool false,.int .i64 0,.slice none 0 0,.slice none 0 0,.bool false,.bool false] 26 (0,0)))∧Aside0 (wc.heap[g1]? = some (.cells #[.int .i64 o,.bool td,.int .i64 tm,.slice none 0 0,.slice none 0 0,.bool false,.bool false] 26 (0,0)))∧Aside0 (Below w.heap.size w wc))
    case first =>
      have H:=H2.out
      clear H2
      by_cases c1 : rd l0 5=1
      · rw [if_pos c1] at H
        have c1b : (rd l0 5 == 1)=true:=by simpa using c1
        rw [c1b]
        clear c1 x5
        obtain ⟨⟨tm,okT⟩,A3_,H⟩:=Option.bind_eq_some_iff.mp H
        have A3:=Aside0.mk A3_
        clear A3_
        dsimp only at H
        cases okT with
        | false =>
          have hz : impl_OldFrom.z=(r1,r2,r3,r4,r5,r6,r7,r8):=by simpa using H
          clear H
          go_upto_region 9 with (go_at_call 51;refine (impl_intAt.calls k _ _ l0 6 3 tm false _ (Kd.C_below HR0.out HB.out) HC0.out A3.out).mono ?_;rintro e w7 ⟨rfl,hd⟩;have n0_:=Aside0.mk (drawn_below HB.out hd);have n1_:=Aside0.mk (drawn_blk BK0.out hd);clear HB BK0 BK1;have HB:=n0_;have BK0:=n1_;clear n0_ n1_ hd)
          simp only [impl_OldFrom.z,Prod.mk.injEq] at hz
          obtain ⟨rfl,rfl,rfl,rfl,rfl,rfl,rfl,rfl⟩:=hz
          have hz_0:=(blk_cell BK0.out 0).trans (show _=some (Value.int .i64 0) from rfl)
          have hz_1:=(blk_cell BK0.out 1).trans (show _=some (Value.bool false) from rfl)
          have hz_2:=(blk_cell BK0.out 2).trans (show _=some (Value.int .i64 0) from rfl)
          have hz_3:=(blk_cell BK0.out 3).trans (show _=some (Value.slice none 0 0) from rfl)
          have hz_4:=(blk_cell BK0.out 4).trans (show _=some (Value.slice none 0 0) from rfl)
          have hz_5:=(blk_cell BK0.out 5).trans (show _=some (Value.bool false) from rfl)
          have hz_6:=(blk_cell BK0.out 6).trans (show _=some (Value.bool false) from rfl)
          have hf_0:=blk_frozen BK0.out 0
          have hf_1:=blk_frozen BK0.out 1
          have hf_2:=blk_frozen BK0.out 2
          have hf_3:=blk_frozen BK0.out 3
          have hf_4:=blk_frozen BK0.out 4
          have hf_5:=blk_frozen BK0.out 5
          have hf_6:=blk_frozen BK0.out 6
          go_wp2
          refine of_end g0 _ false rfl rfl rfl (old_set7 BK0.out _ _ _ _ _ _ _) ?_
          exact ⟨_,_,rfl,Kd.R_nil _ _ _ _ _,Kd.R_nil _ _ _ _ _,by with_reducible exact below_set (below_set (below_set (below_set (below_set (below_set (below_set HB.out GE0.out) GE0.out) GE0.out) GE0.out) GE0.out) GE0.out) GE0.out⟩
        | true =>
          rw [if_pos rfl] at H
          by_cases c9 : 9 ≤ (l0.length : Int)
          · rw [if_pos c9] at H
            obtain ⟨A9,k9,rs9,hrs9,hcut9,hC9,hk9⟩:=cut_drop (some ad) c0 l0 9 (by decide) (by omega) HC0.out
            have hC9':=hC9 w HR0.out
            rw [show (9 : Int).toNat=9 from rfl] at hrs9
            rw [← hrs9] at H
            have H':=Aside0.mk H
            have HC9:=Aside0.mk (And.intro hC9' hk9)
            clear H hrs9 hC9 hC9' hk9 hcut6
            go_upto_region 10 with (go_at_call 51;refine (impl_intAt.calls k _ _ l0 6 3 tm true _ (Kd.C_below HR0.out HB.out) HC0.out A3.out).mono ?_;rintro e w7 ⟨rfl,hd⟩;have n0_:=Aside0.mk (drawn_below HB.out hd);have n1_:=Aside0.mk (drawn_blk BK0.out hd);have n2_:=Aside0.mk (drawn_blk BK1.out hd);clear HB BK0 BK1;have HB:=n0_;have BK0:=n1_;have BK1:=n2_;clear n0_ n1_ n2_ hd;have hz1:=(blk_cell BK1.out 1).trans (show _=some (Value.bool false) from rfl);have hf1:=blk_frozen BK1.out 1;have hz2:=(blk_cell BK1.out 2).trans (show _=some (Value.int .i64 0) from rfl);have hf2:=blk_frozen BK1.out 2)
            have n0_:=Aside0.mk (below_set (j:=2) (v:=.int .i64 tm) (below_set (j:=1) (v:=.bool true) HB.out GE1.out) GE1.out)
            have n1_:=Aside0.mk (blk_far (p:=⟨g1,2,none⟩) (blk_far (p:=⟨g1,1,none⟩) BK0.out NB.out (.bool true)) NB.out (.int .i64 tm))
            have n2_:=Aside0.mk (blk_put (cs':=#[.int .i64 o,.bool true,.int .i64 tm,.slice none 0 0,.slice none 0 0,.bool false,.bool false]) (blk_put (cs':=#[.int .i64 o,.bool true,.int .i64 0,.slice none 0 0,.slice none 0 0,.bool false,.bool false]) BK1.out 1 (.bool true) rfl) 2 (.int .i64 tm) rfl)
            go_wp2
            go_meet
            case rel=>exact ⟨A9,k9,rs9,true,tm,rfl,H',HC9,n1_,n2_,n0_⟩
          · rw [if_neg c9] at H
            exact absurd H (by simp)
      · rw [if_neg c1] at H
        have c1b : (rd l0 5 == 1)=false:=by simpa using c1
        rw [c1b]
        have hr6:=HRS6.out
        rw [show (6 : Int).toNat=6 from rfl] at hr6
        rw [← hr6] at H
        have H':=Aside0.mk H
        clear H c1 hr6 x5
        go_wp2
        go_meet
        case rel=>exact ⟨A6,k6,rs6,false,0,rfl,H',⟨HC6.out,HK6.out⟩,BK0,BK1,HB⟩
    case rest =>
      clear H2 HC6 HK6 HRS6 hcut6 x5
      obtain ⟨A,c,rs,td,tm,rfl,HA,HC5,BK0,BK1,HB⟩:=hcut
      obtain ⟨⟨q1,key,rs2,ok1⟩,P1_,H⟩:=Option.bind_eq_some_iff.mp HA.out
      dsimp only at H
      have P1:=Aside0.mk P1_
      clear HA P1_
      cases ok1 with
      | false =>
        have hz : impl_OldFrom.z=(r1,r2,r3,r4,r5,r6,r7,r8):=by simpa using H
        clear H
        go_upto_region 14 with (go_at_call 52;refine (oldPartFrom_calls A c rs q1 key rs2 false _ (Kd.C_below HC5.out.1 HB.out) HC5.out.2 P1.out).mono ?_;rintro e w7 ⟨v2,A3,c3,rfl,ho,hC,hc,hb⟩;have n0_:=Aside0.mk (below_step HB.out hb);have n1_:=Aside0.mk (blk_below BK0.out hb);have n2_:=Aside0.mk (blk_below BK1.out hb);clear HB BK0 BK1;have HB:=n0_;have BK0:=n1_;have BK1:=n2_;clear n0_ n1_ n2_;clear ho hC hc hb)
        simp only [impl_OldFrom.z,Prod.mk.injEq] at hz
        obtain ⟨rfl,rfl,rfl,rfl,rfl,rfl,rfl,rfl⟩:=hz
        have hz_0:=(blk_cell BK0.out 0).trans (show _=some (Value.int .i64 0) from rfl)
        have hz_1:=(blk_cell BK0.out 1).trans (show _=some (Value.bool false) from rfl)
        have hz_2:=(blk_cell BK0.out 2).trans (show _=some (Value.int .i64 0) from rfl)
        have hz_3:=(blk_cell BK0.out 3).trans (show _=some (Value.slice none 0 0) from rfl)
        have hz_4:=(blk_cell BK0.out 4).trans (show _=some (Value.slice none 0 0) from rfl)
        have hz_5:=(blk_cell BK0.out 5).trans (show _=some (Value.bool false) from rfl)
        have hz_6:=(blk_cell BK0.out 6).trans (show _=some (Value.bool false) from rfl)
        have hf_0:=blk_frozen BK0.out 0
        have hf_1:=blk_frozen BK0.out 1
        have hf_2:=blk_frozen BK0.out 2
        have hf_3:=blk_frozen BK0.out 3
        have hf_4:=blk_frozen BK0.out 4
        have hf_5:=blk_frozen BK0.out 5
        have hf_6:=blk_frozen BK0.out 6
        go_wp2
        refine of_end g0 _ false rfl rfl rfl (old_set7 BK0.out _ _ _ _ _ _ _) ?_
        exact ⟨_,_,rfl,Kd.R_nil _ _ _ _ _,Kd.R_nil _ _ _ _ _,by with_reducible exact below_set (below_set (below_set (below_set (below_set (below_set (below_set HB.out GE0.out) GE0.out) GE0.out) GE0.out) GE0.out) GE0.out) GE0.out⟩
      | true =>
        rw [if_pos rfl] at H
        obtain ⟨⟨q2,val,rs3,ok2⟩,P2_,H⟩:=Option.bind_eq_some_iff.mp H
        dsimp only at H
        have P2:=Aside0.mk P2_
        have H2:=Aside0.mk H
        clear P2_ H
        go_upto_region 15 with (go_at_call 52;refine (oldPartFrom_calls A c rs q1 key rs2 true _ (Kd.C_below HC5.out.1 HB.out) HC5.out.2 P1.out).mono ?_;rintro e w7 ⟨v2,A3,c3,rfl,ho,hC,hc,hb⟩;have HC3:=Aside0.mk (And.intro (Kd.C_below hC hb) hc);have HO1:=Aside0.mk (Kd.R_lower ho (below_size HB.out));have n0_:=Aside0.mk (below_step HB.out hb);have n1_:=Aside0.mk (blk_below BK0.out hb);have n2_:=Aside0.mk (blk_below BK1.out hb);clear HB BK0 BK1;have HB:=n0_;have BK0:=n1_;have BK1:=n2_;clear n0_ n1_ n2_;clear ho hC hc hb;obtain ⟨Ak,ck,rfl,hlk,hCk⟩:=Kd.R_reads HO1.out;clear hlk hCk)
        go_upto_region 16 with (go_at_call 52;refine (oldPartFrom_calls A3 c3 rs2 q2 val rs3 ok2 _ HC3.out.1 HC3.out.2 P2.out).mono ?_;rintro e w8 ⟨v4,A4,c4,rfl,ho,hC,hc,hb⟩;have HO2_:=Aside0.mk (Kd.R_mono (ok':=fun k_=>some k_ ≠ (Value.slice Ak key.length ck).ownBlock) (Kd.R_lower (Kd.R_new ho (Kd.R_own HO1.out).choose_spec) (below_size HB.out)) (fun _ hk=>hk.2));have HO1_:=Aside0.mk (R_flat_int (ok':=fun k_=>some k_ ≠ v4.ownBlock) (Kd.R_below HO1.out hb) (fun k hk _ he=>(HO2_.out.1 k he.symm) hk.symm));have n0_:=Aside0.mk (below_step HB.out hb);have n1_:=Aside0.mk (blk_below BK0.out hb);have n2_:=Aside0.mk (blk_below BK1.out hb);clear HB BK0 BK1;have HB:=n0_;have BK0:=n1_;have BK1:=n2_;clear n0_ n1_ n2_;clear HC3 ho hC hc hb;have HO3:=HO1_;have HO4:=HO2_;clear HO1_ HO2_;obtain ⟨Av,cv,rfl,hlv,hCv⟩:=Kd.R_reads HO4.out;clear hlv hCv)
        cases ok2 with
        | false =>
          have hz : impl_OldFrom.z=(r1,r2,r3,r4,r5,r6,r7,r8):=by simpa using H2.out
          clear H2 HO1
          go_upto_region 17 with fail
          simp only [impl_OldFrom.z,Prod.mk.injEq] at hz
          obtain ⟨rfl,rfl,rfl,rfl,rfl,rfl,rfl,rfl⟩:=hz
          have hz_0:=(blk_cell BK0.out 0).trans (show _=some (Value.int .i64 0) from rfl)
          have hz_1:=(blk_cell BK0.out 1).trans (show _=some (Value.bool false) from rfl)
          have hz_2:=(blk_cell BK0.out 2).trans (show _=some (Value.int .i64 0) from rfl)
          have hz_3:=(blk_cell BK0.out 3).trans (show _=some (Value.slice none 0 0) from rfl)
          have hz_4:=(blk_cell BK0.out 4).trans (show _=some (Value.slice none 0 0) from rfl)
          have hz_5:=(blk_cell BK0.out 5).trans (show _=some (Value.bool false) from rfl)
          have hz_6:=(blk_cell BK0.out 6).trans (show _=some (Value.bool false) from rfl)
          have hf_0:=blk_frozen BK0.out 0
          have hf_1:=blk_frozen BK0.out 1
          have hf_2:=blk_frozen BK0.out 2
          have hf_3:=blk_frozen BK0.out 3
          have hf_4:=blk_frozen BK0.out 4
          have hf_5:=blk_frozen BK0.out 5
          have hf_6:=blk_frozen BK0.out 6
          go_wp2
          refine of_end g0 _ false rfl rfl rfl (old_set7 BK0.out _ _ _ _ _ _ _) ?_
          exact ⟨_,_,rfl,Kd.R_nil _ _ _ _ _,Kd.R_nil _ _ _ _ _,by with_reducible exact below_set (below_set (below_set (below_set (below_set (below_set (below_set HB.out GE0.out) GE0.out) GE0.out) GE0.out) GE0.out) GE0.out) GE0.out⟩
        | true =>
          have H:=H2.out
          rw [if_pos rfl] at H
          clear H2 HO1
          by_cases c3 : rs3.length=0
          · rw [if_pos c3] at H
            have d3 : decide ((0 : Int) < (rs3.length : Int))=false:=decide_eq_false (by omega)
            have d4 : decide (0 < rs3.length)=false:=decide_eq_false (by omega)
            obtain ⟨v,V_,H⟩:=Option.bind_eq_some_iff.mp H
            have VV:=Aside0.mk V_
            have H2:=Aside0.mk H
            clear V_ H
            have hm_0:=(blk_cell BK1.out 0).trans (show _=some (Value.int .i64 o) from rfl)
            have hm_1:=(blk_cell BK1.out 1).trans (show _=some (Value.bool td) from rfl)
            have hm_2:=(blk_cell BK1.out 2).trans (show _=some (Value.int .i64 tm) from rfl)
            have hm_3:=(blk_cell BK1.out 3).trans (show _=some (Value.slice none 0 0) from rfl)
            have hm_4:=(blk_cell BK1.out 4).trans (show _=some (Value.slice none 0 0) from rfl)
            have hm_5:=(blk_cell BK1.out 5).trans (show _=some (Value.bool false) from rfl)
            have hm_6:=(blk_cell BK1.out 6).trans (show _=some (Value.bool false) from rfl)
            have hg_0:=blk_frozen BK1.out 0
            have hg_1:=blk_frozen BK1.out 1
            have hg_2:=blk_frozen BK1.out 2
            have hg_3:=blk_frozen BK1.out 3
            have hg_4:=blk_frozen BK1.out 4
            have hg_5:=blk_frozen BK1.out 5
            have hg_6:=blk_frozen BK1.out 6
            go_upto_region 19 with fail
            clear hm_0 hg_0 hm_1 hg_1 hm_2 hg_2 hm_3 hg_3 hm_4 hg_4 hm_5 hg_5 hm_6 hg_6
            have ra0:=R_set26 HO3.out BK1.out 5 (.bool q1)
            have rb0:=R_set26 HO4.out BK1.out 5 (.bool q1)
            have z0_:=blk_far (p:=⟨g1,5,none⟩) BK0.out NB.out (.bool q1)
            have y0_:=below_set (j:=5) (v:=.bool q1) HB.out GE1.out
            have x0_:=blk_put (cs:=#[.int .i64 o,.bool td,.int .i64 tm,.slice none 0 0,.slice none 0 0,.bool false,.bool false]) (cs':=#[.int .i64 o,.bool td,.int .i64 tm,.slice none 0 0,.slice none 0 0,.bool q1,.bool false]) BK1.out 5 (.bool q1) rfl
            generalize (w8.setCell ⟨g1,5,none⟩ (.bool q1))=V0 at ra0 rb0 z0_ y0_ x0_ ⊢
            have ra1:=R_set26 ra0 x0_ 3 (.slice Ak key.length ck)
            have rb1:=R_set26 rb0 x0_ 3 (.slice Ak key.length ck)
            have z1_:=blk_far (p:=⟨g1,3,none⟩) z0_ NB.out (.slice Ak key.length ck)
            have y1_:=below_set (j:=3) (v:=.slice Ak key.length ck) y0_ GE1.out
            have x1_:=blk_put (cs:=#[.int .i64 o,.bool td,.int .i64 tm,.slice none 0 0,.slice none 0 0,.bool q1,.bool false]) (cs':=#[.int .i64 o,.bool td,.int .i64 tm,.slice Ak key.length ck,.slice none 0 0,.bool q1,.bool false]) x0_ 3 (.slice Ak key.length ck) rfl
            generalize (V0.setCell ⟨g1,3,none⟩ (.slice Ak key.length ck))=V1 at ra1 rb1 z1_ y1_ x1_ ⊢
            have ra2:=R_set26 ra1 x1_ 6 (.bool (!q2))
            have rb2:=R_set26 rb1 x1_ 6 (.bool (!q2))
            have z2_:=blk_far (p:=⟨g1,6,none⟩) z1_ NB.out (.bool (!q2))
            have y2_:=below_set (j:=6) (v:=.bool (!q2)) y1_ GE1.out
            have x2_:=blk_put (cs:=#[.int .i64 o,.bool td,.int .i64 tm,.slice Ak key.length ck,.slice none 0 0,.bool q1,.bool false]) (cs':=#[.int .i64 o,.bool td,.int .i64 tm,.slice Ak key.length ck,.slice none 0 0,.bool q1,.bool (!q2)]) x1_ 6 (.bool (!q2)) rfl
            generalize (V1.setCell ⟨g1,6,none⟩ (.bool (!q2)))=V2 at ra2 rb2 z2_ y2_ x2_ ⊢
            have ra3:=R_set26 ra2 x2_ 4 (.slice Av val.length cv)
            have rb3:=R_set26 rb2 x2_ 4 (.slice Av val.length cv)
            have z3_:=blk_far (p:=⟨g1,4,none⟩) z2_ NB.out (.slice Av val.length cv)
            have y3_:=below_set (j:=4) (v:=.slice Av val.length cv) y2_ GE1.out
            have x3_:=blk_put (cs:=#[.int .i64 o,.bool td,.int .i64 tm,.slice Ak key.length ck,.slice none 0 0,.bool q1,.bool (!q2)]) (cs':=#[.int .i64 o,.bool td,.int .i64 tm,.slice Ak key.length ck,.slice Av val.length cv,.bool q1,.bool (!q2)]) x2_ 4 (.slice Av val.length cv) rfl
            generalize (V2.setCell ⟨g1,4,none⟩ (.slice Av val.length cv))=V3 at ra3 rb3 z3_ y3_ x3_ ⊢
            clear ra0 rb0 z0_ y0_ x0_ ra1 rb1 z1_ y1_ x1_ ra2 rb2 z2_ y2_ x2_ BK0 BK1 HB HO3 HO4 d3 d4 c3 P1 P2
            have BK0:=Aside0.mk z3_
            have BK1:=Aside0.mk x3_
            have HB:=Aside0.mk y3_
            have HO3:=Aside0.mk ra3
            have HO4:=Aside0.mk rb3
            clear ra3 rb3 z3_ y3_ x3_
            have hm_0:=(blk_cell BK1.out 0).trans (show _=some (Value.int .i64 o) from rfl)
            have hm_1:=(blk_cell BK1.out 1).trans (show _=some (Value.bool td) from rfl)
            have hm_2:=(blk_cell BK1.out 2).trans (show _=some (Value.int .i64 tm) from rfl)
            have hm_3:=(blk_cell BK1.out 3).trans (show _=some (Value.slice Ak key.length ck) from rfl)
            have hm_4:=(blk_cell BK1.out 4).trans (show _=some (Value.slice Av val.length cv) from rfl)
            have hm_5:=(blk_cell BK1.out 5).trans (show _=some (Value.bool q1) from rfl)
            have hm_6:=(blk_cell BK1.out 6).trans (show _=some (Value.bool (!q2)) from rfl)
            cases v with
            | false =>
              have hz : impl_OldFrom.z=(r1,r2,r3,r4,r5,r6,r7,r8):=by simpa using H2.out
              clear H2
              go_upto_region 20 with (go_at_call 20;refine (impl_OldValid.calls k o td tm Ak ck key Av cv val q1 (!q2) false _ (R_own_reads HO3.out).2 (R_own_reads HO3.out).1 (R_own_reads HO4.out).2 (R_own_reads HO4.out).1 VV.out).mono ?_;rintro e w9 ⟨rfl,hb⟩;have n0_:=Aside0.mk (below_step HB.out hb);have n1_:=Aside0.mk (blk_below BK0.out hb);have n2_:=Aside0.mk (blk_below BK1.out hb);have n3_:=Aside0.mk (Kd.R_below HO3.out hb);have n4_:=Aside0.mk (Kd.R_below HO4.out hb);clear HB BK0 BK1 HO3 HO4 hb;have HB:=n0_;have BK0:=n1_;have BK1:=n2_;have HO3:=n3_;have HO4:=n4_;clear n0_ n1_ n2_ n3_ n4_;clear hm_0 hm_1 hm_2 hm_3 hm_4 hm_5 hm_6;have hm_0:=(blk_cell BK1.out 0).trans (show _=some (Value.int .i64 o) from rfl);have hm_1:=(blk_cell BK1.out 1).trans (show _=some (Value.bool td) from rfl);have hm_2:=(blk_cell BK1.out 2).trans (show _=some (Value.int .i64 tm) from rfl);have hm_3:=(blk_cell BK1.out 3).trans (show _=some (Value.slice Ak key.length ck) from rfl);have hm_4:=(blk_cell BK1.out 4).trans (show _=some (Value.slice Av val.length cv) from rfl);have hm_5:=(blk_cell BK1.out 5).trans (show _=some (Value.bool q1) from rfl);have hm_6:=(blk_cell BK1.out 6).trans (show _=some (Value.bool (!q2)) from rfl))
              clear hm_0 hm_1 hm_2 hm_3 hm_4 hm_5 hm_6
              simp only [impl_OldFrom.z,Prod.mk.injEq] at hz
              obtain ⟨rfl,rfl,rfl,rfl,rfl,rfl,rfl,rfl⟩:=hz
              have hz_0:=(blk_cell BK0.out 0).trans (show _=some (Value.int .i64 0) from rfl)
              have hz_1:=(blk_cell BK0.out 1).trans (show _=some (Value.bool false) from rfl)
              have hz_2:=(blk_cell BK0.out 2).trans (show _=some (Value.int .i64 0) from rfl)
              have hz_3:=(blk_cell BK0.out 3).trans (show _=some (Value.slice none 0 0) from rfl)
              have hz_4:=(blk_cell BK0.out 4).trans (show _=some (Value.slice none 0 0) from rfl)
              have hz_5:=(blk_cell BK0.out 5).trans (show _=some (Value.bool false) from rfl)
              have hz_6:=(blk_cell BK0.out 6).trans (show _=some (Value.bool false) from rfl)
              have hf_0:=blk_frozen BK0.out 0
              have hf_1:=blk_frozen BK0.out 1
              have hf_2:=blk_frozen BK0.out 2
              have hf_3:=blk_frozen BK0.out 3
              have hf_4:=blk_frozen BK0.out 4
              have hf_5:=blk_frozen BK0.out 5
              have hf_6:=blk_frozen BK0.out 6
              go_wp2
              refine of_end g0 _ false rfl rfl rfl (old_set7 BK0.out _ _ _ _ _ _ _) ?_
              exact ⟨_,_,rfl,Kd.R_nil _ _ _ _ _,Kd.R_nil _ _ _ _ _,by with_reducible exact below_set (below_set (below_set (below_set (below_set (below_set (below_set HB.out GE0.out) GE0.out) GE0.out) GE0.out) GE0.out) GE0.out) GE0.out⟩
            | true =>
              have H:=H2.out
              rw [if_pos rfl] at H
              obtain ⟨bs,PB_,H⟩:=Option.bind_eq_some_iff.mp H
              obtain ⟨e,PE_,H⟩:=Option.bind_eq_some_iff.mp H
              have PB:=Aside0.mk PB_
              have PE:=Aside0.mk PE_
              clear H2 PB_ PE_
              cases e with
              | false =>
                have hz : impl_OldFrom.z=(r1,r2,r3,r4,r5,r6,r7,r8):=by simpa using H
                clear H
                go_upto_region 20 with (first|(go_at_call 20;refine (impl_OldValid.calls k o td tm Ak ck key Av cv val q1 (!q2) true _ (R_own_reads HO3.out).2 (R_own_reads HO3.out).1 (R_own_reads HO4.out).2 (R_own_reads HO4.out).1 VV.out).mono ?_;rintro e w9 ⟨rfl,hb⟩;have n0_:=Aside0.mk (below_step HB.out hb);have n1_:=Aside0.mk (blk_below BK0.out hb);have n2_:=Aside0.mk (blk_below BK1.out hb);have n3_:=Aside0.mk (Kd.R_below HO3.out hb);have n4_:=Aside0.mk (Kd.R_below HO4.out hb);clear HB BK0 BK1 HO3 HO4 hb;have HB:=n0_;have BK0:=n1_;have BK1:=n2_;have HO3:=n3_;have HO4:=n4_;clear n0_ n1_ n2_ n3_ n4_;clear hm_0 hm_1 hm_2 hm_3 hm_4 hm_5 hm_6;have hm_0:=(blk_cell BK1.out 0).trans (show _=some (Value.int .i64 o) from rfl);have hm_1:=(blk_cell BK1.out 1).trans (show _=some (Value.bool td) from rfl);have hm_2:=(blk_cell BK1.out 2).trans (show _=some (Value.int .i64 tm) from rfl);have hm_3:=(blk_cell BK1.out 3).trans (show _=some (Value.slice Ak key.length ck) from rfl);have hm_4:=(blk_cell BK1.out 4).trans (show _=some (Value.slice Av val.length cv) from rfl);have hm_5:=(blk_cell BK1.out 5).trans (show _=some (Value.bool q1) from rfl);have hm_6:=(blk_cell BK1.out 6).trans (show _=some (Value.bool (!q2)) from rfl))|(go_at_call 54;refine (impl_Old_bytesOf.calls k o td tm Ak ck key Av cv val q1 (!q2) bs _ (R_own_reads HO3.out).2 (R_own_reads HO3.out).1 (R_own_reads HO4.out).2 (R_own_reads HO4.out).1 PB.out).mono ?_;rintro e w10 ⟨v10,rfl,ho,hb⟩;have n0_:=Aside0.mk (below_step HB.out hb);have n1_:=Aside0.mk (blk_below BK0.out hb);have n2_:=Aside0.mk (blk_below BK1.out hb);have n3_:=Aside0.mk (Kd.R_below HO3.out hb);have n4_:=Aside0.mk (Kd.R_below HO4.out hb);clear HB BK0 BK1 HO3 HO4 hb;have HB:=n0_;have BK0:=n1_;have BK1:=n2_;have HO3:=n3_;have HO4:=n4_;clear n0_ n1_ n2_ n3_ n4_;clear hm_0 hm_1 hm_2 hm_3 hm_4 hm_5 hm_6;have hm_0:=(blk_cell BK1.out 0).trans (show _=some (Value.int .i64 o) from rfl);have hm_1:=(blk_cell BK1.out 1).trans (show _=some (Value.bool td) from rfl);have hm_2:=(blk_cell BK1.out 2).trans (show _=some (Value.int .i64 tm) from rfl);have hm_3:=(blk_cell BK1.out 3).trans (show _=some (Value.slice Ak key.length ck) from rfl);have hm_4:=(blk_cell BK1.out 4).trans (show _=some (Value.slice Av val.length cv) from rfl);have hm_5:=(blk_cell BK1.out 5).trans (show _=some (Value.bool q1) from rfl);have hm_6:=(blk_cell BK1.out 6).trans (show _=some (Value.bool (!q2)) from rfl);obtain ⟨Ab,cb,rfl,hlb,hCb⟩:=Kd.R_reads ho;have HCb:=Aside0.mk (And.intro hCb hlb);clear ho hCb hlb)|(go_at_call 53;refine (slices_Equal_int_int.calls k Ab cb bs _ _ l0 false _ HCb.out.1 HCb.out.2 (Kd.C_below HR0.out HB.out) HC0.out PE.out).mono ?_;rintro e w11 ⟨rfl,hd⟩;have hb:=drawn_below (Below.refl w10.heap.size w10) hd;clear hd;have n0_:=Aside0.mk (below_step HB.out hb);have n1_:=Aside0.mk (blk_below BK0.out hb);have n2_:=Aside0.mk (blk_below BK1.out hb);have n3_:=Aside0.mk (Kd.R_below HO3.out hb);have n4_:=Aside0.mk (Kd.R_below HO4.out hb);clear HB BK0 BK1 HO3 HO4 hb;have HB:=n0_;have BK0:=n1_;have BK1:=n2_;have HO3:=n3_;have HO4:=n4_;clear n0_ n1_ n2_ n3_ n4_;clear hm_0 hm_1 hm_2 hm_3 hm_4 hm_5 hm_6;have hm_0:=(blk_cell BK1.out 0).trans (show _=some (Value.int .i64 o) from rfl);have hm_1:=(blk_cell BK1.out 1).trans (show _=some (Value.bool td) from rfl);have hm_2:=(blk_cell BK1.out 2).trans (show _=some (Value.int .i64 tm) from rfl);have hm_3:=(blk_cell BK1.out 3).trans (show _=some (Value.slice Ak key.length ck) from rfl);have hm_4:=(blk_cell BK1.out 4).trans (show _=some (Value.slice Av val.length cv) from rfl);have hm_5:=(blk_cell BK1.out 5).trans (show _=some (Value.bool q1) from rfl);have hm_6:=(blk_cell BK1.out 6).trans (show _=some (Value.bool (!q2)) from rfl)))
                clear hm_0 hm_1 hm_2 hm_3 hm_4 hm_5 hm_6
                simp only [impl_OldFrom.z,Prod.mk.injEq] at hz
                obtain ⟨rfl,rfl,rfl,rfl,rfl,rfl,rfl,rfl⟩:=hz
                have hz_0:=(blk_cell BK0.out 0).trans (show _=some (Value.int .i64 0) from rfl)
                have hz_1:=(blk_cell BK0.out 1).trans (show _=some (Value.bool false) from rfl)
                have hz_2:=(blk_cell BK0.out 2).trans (show _=some (Value.int .i64 0) from rfl)
                have hz_3:=(blk_cell BK0.out 3).trans (show _=some (Value.slice none 0 0) from rfl)
                have hz_4:=(blk_cell BK0.out 4).trans (show _=some (Value.slice none 0 0) from rfl)
                have hz_5:=(blk_cell BK0.out 5).trans (show _=some (Value.bool false) from rfl)
                have hz_6:=(blk_cell BK0.out 6).trans (show _=some (Value.bool false) from rfl)
                have hf_0:=blk_frozen BK0.out 0
                have hf_1:=blk_frozen BK0.out 1
                have hf_2:=blk_frozen BK0.out 2
                have hf_3:=blk_frozen BK0.out 3
                have hf_4:=blk_frozen BK0.out 4
                have hf_5:=blk_frozen BK0.out 5
                have hf_6:=blk_frozen BK0.out 6
                go_wp2
                refine of_end g0 _ false rfl rfl rfl (old_set7 BK0.out _ _ _ _ _ _ _) ?_
                exact ⟨_,_,rfl,Kd.R_nil _ _ _ _ _,Kd.R_nil _ _ _ _ _,by with_reducible exact below_set (below_set (below_set (below_set (below_set (below_set (below_set HB.out GE0.out) GE0.out) GE0.out) GE0.out) GE0.out) GE0.out) GE0.out⟩
              | true =>
                rw [if_pos rfl] at H
                simp only [Option.some.injEq,Prod.mk.injEq] at H
                obtain ⟨rfl,rfl,rfl,rfl,rfl,rfl,rfl,rfl⟩:=H
                go_upto_region 21 with (first|(go_at_call 20;refine (impl_OldValid.calls k o td tm Ak ck key Av cv val q1 (!q2) true _ (R_own_reads HO3.out).2 (R_own_reads HO3.out).1 (R_own_reads HO4.out).2 (R_own_reads HO4.out).1 VV.out).mono ?_;rintro e w9 ⟨rfl,hb⟩;have n0_:=Aside0.mk (below_step HB.out hb);have n1_:=Aside0.mk (blk_below BK0.out hb);have n2_:=Aside0.mk (blk_below BK1.out hb);have n3_:=Aside0.mk (Kd.R_below HO3.out hb);have n4_:=Aside0.mk (Kd.R_below HO4.out hb);clear HB BK0 BK1 HO3 HO4 hb;have HB:=n0_;have BK0:=n1_;have BK1:=n2_;have HO3:=n3_;have HO4:=n4_;clear n0_ n1_ n2_ n3_ n4_;clear hm_0 hm_1 hm_2 hm_3 hm_4 hm_5 hm_6;have hm_0:=(blk_cell BK1.out 0).trans (show _=some (Value.int .i64 o) from rfl);have hm_1:=(blk_cell BK1.out 1).trans (show _=some (Value.bool td) from rfl);have hm_2:=(blk_cell BK1.out 2).trans (show _=some (Value.int .i64 tm) from rfl);have hm_3:=(blk_cell BK1.out 3).trans (show _=some (Value.slice Ak key.length ck) from rfl);have hm_4:=(blk_cell BK1.out 4).trans (show _=some (Value.slice Av val.length cv) from rfl);have hm_5:=(blk_cell BK1.out 5).trans (show _=some (Value.bool q1) from rfl);have hm_6:=(blk_cell BK1.out 6).trans (show _=some (Value.bool (!q2)) from rfl))|(go_at_call 54;refine (impl_Old_bytesOf.calls k o td tm Ak ck key Av cv val q1 (!q2) bs _ (R_own_reads HO3.out).2 (R_own_reads HO3.out).1 (R_own_reads HO4.out).2 (R_own_reads HO4.out).1 PB.out).mono ?_;rintro e w10 ⟨v10,rfl,ho,hb⟩;have n0_:=Aside0.mk (below_step HB.out hb);have n1_:=Aside0.mk (blk_below BK0.out hb);have n2_:=Aside0.mk (blk_below BK1.out hb);have n3_:=Aside0.mk (Kd.R_below HO3.out hb);have n4_:=Aside0.mk (Kd.R_below HO4.out hb);clear HB BK0 BK1 HO3 HO4 hb;have HB:=n0_;have BK0:=n1_;have BK1:=n2_;have HO3:=n3_;have HO4:=n4_;clear n0_ n1_ n2_ n3_ n4_;clear hm_0 hm_1 hm_2 hm_3 hm_4 hm_5 hm_6;have hm_0:=(blk_cell BK1.out 0).trans (show _=some (Value.int .i64 o) from rfl);have hm_1:=(blk_cell BK1.out 1).trans (show _=some (Value.bool td) from rfl);have hm_2:=(blk_cell BK1.out 2).trans (show _=some (Value.int .i64 tm) from rfl);have hm_3:=(blk_cell BK1.out 3).trans (show _=some (Value.slice Ak key.length ck) from rfl);have hm_4:=(blk_cell BK1.out 4).trans (show _=some (Value.slice Av val.length cv) from rfl);have hm_5:=(blk_cell BK1.out 5).trans (show _=some (Value.bool q1) from rfl);have hm_6:=(blk_cell BK1.out 6).trans (show _=some (Value.bool (!q2)) from rfl);obtain ⟨Ab,cb,rfl,hlb,hCb⟩:=Kd.R_reads ho;have HCb:=Aside0.mk (And.intro hCb hlb);clear ho hCb hlb)|(go_at_call 53;refine (slices_Equal_int_int.calls k Ab cb bs _ _ l0 true _ HCb.out.1 HCb.out.2 (Kd.C_below HR0.out HB.out) HC0.out PE.out).mono ?_;rintro e w11 ⟨rfl,hd⟩;have hb:=drawn_below (Below.refl w10.heap.size w10) hd;clear hd;have n0_:=Aside0.mk (below_step HB.out hb);have n1_:=Aside0.mk (blk_below BK0.out hb);have n2_:=Aside0.mk (blk_below BK1.out hb);have n3_:=Aside0.mk (Kd.R_below HO3.out hb);have n4_:=Aside0.mk (Kd.R_below HO4.out hb);clear HB BK0 BK1 HO3 HO4 hb;have HB:=n0_;have BK0:=n1_;have BK1:=n2_;have HO3:=n3_;have HO4:=n4_;clear n0_ n1_ n2_ n3_ n4_;clear hm_0 hm_1 hm_2 hm_3 hm_4 hm_5 hm_6;have hm_0:=(blk_cell BK1.out 0).trans (show _=some (Value.int .i64 o) from rfl);have hm_1:=(blk_cell BK1.out 1).trans (show _=some (Value.bool td) from rfl);have hm_2:=(blk_cell BK1.out 2).trans (show _=some (Value.int .i64 tm) from rfl);have hm_3:=(blk_cell BK1.out 3).trans (show _=some (Value.slice Ak key.length ck) from rfl);have hm_4:=(blk_cell BK1.out 4).trans (show _=some (Value.slice Av val.length cv) from rfl);have hm_5:=(blk_cell BK1.out 5).trans (show _=some (Value.bool q1) from rfl);have hm_6:=(blk_cell BK1.out 6).trans (show _=some (Value.bool (!q2)) from rfl)))
                have hz_0:=(blk_cell BK0.out 0).trans (show _=some (Value.int .i64 0) from rfl)
                have hz_1:=(blk_cell BK0.out 1).trans (show _=some (Value.bool false) from rfl)
                have hz_2:=(blk_cell BK0.out 2).trans (show _=some (Value.int .i64 0) from rfl)
                have hz_3:=(blk_cell BK0.out 3).trans (show _=some (Value.slice none 0 0) from rfl)
                have hz_4:=(blk_cell BK0.out 4).trans (show _=some (Value.slice none 0 0) from rfl)
                have hz_5:=(blk_cell BK0.out 5).trans (show _=some (Value.bool false) from rfl)
                have hz_6:=(blk_cell BK0.out 6).trans (show _=some (Value.bool false) from rfl)
                have hf_0:=blk_frozen BK0.out 0
                have hf_1:=blk_frozen BK0.out 1
                have hf_2:=blk_frozen BK0.out 2
                have hf_3:=blk_frozen BK0.out 3
                have hf_4:=blk_frozen BK0.out 4
                have hf_5:=blk_frozen BK0.out 5
                have hf_6:=blk_frozen BK0.out 6
                have hne:=NB.out
                have hnf:=NB.out.symm
                go_wp2
                refine of_end g0 _ true rfl rfl rfl (old_set7 BK0.out _ _ _ _ _ _ _) ?_
                exact ⟨_,_,rfl,R_set7 BK0.out HO3.out _ _ _ _ _ _ _,R_set7 BK0.out HO4.out _ _ _ _ _ _ _,below_set (below_set (below_set (below_set (below_set (below_set (below_set HB.out GE0.out) GE0.out) GE0.out) GE0.out) GE0.out) GE0.out) GE0.out⟩
          · rw [if_neg c3] at H
            have hz : impl_OldFrom.z=(r1,r2,r3,r4,r5,r6,r7,r8):=by simpa using H
            have d3 : decide ((0 : Int) < (rs3.length : Int))=true:=decide_eq_true (by omega)
            have d4 : decide (0 < rs3.length)=true:=decide_eq_true (by omega)
            clear H
            go_upto_region 17 with fail
            simp only [impl_OldFrom.z,Prod.mk.injEq] at hz
            obtain ⟨rfl,rfl,rfl,rfl,rfl,rfl,rfl,rfl⟩:=hz
            have hz_0:=(blk_cell BK0.out 0).trans (show _=some (Value.int .i64 0) from rfl)
            have hz_1:=(blk_cell BK0.out 1).trans (show _=some (Value.bool false) from rfl)
            have hz_2:=(blk_cell BK0.out 2).trans (show _=some (Value.int .i64 0) from rfl)
            have hz_3:=(blk_cell BK0.out 3).trans (show _=some (Value.slice none 0 0) from rfl)
            have hz_4:=(blk_cell BK0.out 4).trans (show _=some (Value.slice none 0 0) from rfl)
            have hz_5:=(blk_cell BK0.out 5).trans (show _=some (Value.bool false) from rfl)
            have hz_6:=(blk_cell BK0.out 6).trans (show _=some (Value.bool false) from rfl)
            have hf_0:=blk_frozen BK0.out 0
            have hf_1:=blk_frozen BK0.out 1
            have hf_2:=blk_frozen BK0.out 2
            have hf_3:=blk_frozen BK0.out 3
            have hf_4:=blk_frozen BK0.out 4
            have hf_5:=blk_frozen BK0.out 5
            have hf_6:=blk_frozen BK0.out 6
            go_wp2
            refine of_end g0 _ false rfl rfl rfl (old_set7 BK0.out _ _ _ _ _ _ _) ?_
            exact ⟨_,_,rfl,Kd.R_nil _ _ _ _ _,Kd.R_nil _ _ _ _ _,by with_reducible exact below_set (below_set (below_set (below_set (below_set (below_set (below_set HB.out GE0.out) GE0.out) GE0.out) GE0.out) GE0.out) GE0.out) GE0.out⟩

/-! ### spec_l2From: function 56 -/
def spec_l2From.l0 : Nat→List Int→Int→Int→Int→Int→Option (Int)
  | 0,_,_,_,_,_=>none
  | k + 1,x0,x1,x2,x7,x8=>if x8 < (wrap64 (x1 + x2)) then (if 0 ≤ x8 then (if x8 < (x0.length : Int) then (spec_l2From.l0 k x0 x1 x2 (wrap64 ((wrap64 (256 * x7)) + (rd x0 x8))) (wrap64 (x8 + 1))) else (none)) else (none)) else (some x7)
def spec_l2From.f (k : Nat) (l0 : List Int) (a1 : Int) (a2 : Int) : Option (Int):=spec_l2From.l0 k l0 a1 a2 0 a1
theorem spec_l2From.mono_l : ∀ k,(∀ y0 y1 y2 y3 y4,LeO (spec_l2From.l0 k y0 y1 y2 y3 y4) (spec_l2From.l0 (k + 1) y0 y1 y2 y3 y4))
  | 0=>fun _ _ _ _ _ r h=>by simp [spec_l2From.l0] at h
  | k + 1=>by
    have ih0:=spec_l2From.mono_l k
    · intro y0 y1 y2 y3 y4
      unfold spec_l2From.l0
      repeat' first
      | (with_reducible exact ih0 _ _ _ _ _)
      | (with_reducible exact LeO.refl _)
      | (with_reducible exact LeO.none _)
      | (with_reducible refine LeO.ite ?_ ?_)
      | (with_reducible refine LeO.bind ?_ (fun _=>?_))
      | exact ih0 _ _ _ _ _
      | exact LeO.none _
      | refine LeO.ite ?_ ?_
      | refine LeO.bind ?_ (fun _=>?_)
theorem spec_l2From.mono : ∀ a0 a1 a2 k,LeO (spec_l2From.f k a0 a1 a2) (spec_l2From.f (k + 1) a0 a1 a2):=by
  intro a0 a1 a2 k
  have ih0:=spec_l2From.mono_l k
  unfold spec_l2From.f
  repeat' first
      | (with_reducible exact ih0 _ _ _ _ _)
      | (with_reducible exact LeO.refl _)
      | (with_reducible exact LeO.none _)
      | (with_reducible refine LeO.ite ?_ ?_)
      | (with_reducible refine LeO.bind ?_ (fun _=>?_))
      | exact ih0 _ _ _ _ _
      | exact LeO.none _
      | refine LeO.ite ?_ ?_
      | refine LeO.bind ?_ (fun _=>?_)
set_option maxHeartbeats 8000000 in
set_option maxRecDepth 100000 in
theorem spec_l2From.calls (k : Nat) (A0 : Option Addr) (c0 : Nat) (l0 : List Int) (a1 : Int) (a2 : Int) (r : Int) (w : World) (hr0 : Kd.C (Kd.int .i64) w A0 l0.length l0) (hc0 : l0.length ≤ c0) (h : spec_l2From.f k l0 a1 a2=some r) :
    Calls Try.prog 56 #[.slice A0 l0.length c0,.int .i64 a1,.int .i64 a2] w fun e w'=>e = .returned (.int .i64 r)∧Drawn0 w w':=by
  have HR0:=Aside0.mk hr0
  have HC0:=Aside0.mk hc0
  clear hr0 hc0
  have H : (spec_l2From.l0 k l0 a1 a2 0 a1)=some r:=h
  clear h
  have H':=Aside0.mk H
  clear H
  go_enter Try.func56,Try.ntmps56
  go_wp2
  go_loopg [7,8] k (fun kq v7 v8 w'=>∃ (x7_1 : Int) (x8_1 : Int),v7 = .int .i64 x7_1∧v8 = .int .i64 x8_1∧Aside0 (spec_l2From.l0 kq l0 a1 a2 x7_1 x8_1=some r)∧Aside0 (kq ≤ k)∧Drawn0 w w')
  case atStart=>exact ⟨(0),(a1),(by first|rfl|(simp;done)|(simp [*];done)),(by first|rfl|(simp;done)|(simp [*];done)),H',⟨Nat.le_refl _⟩,by repeat (first|exact Drawn0.refl _|apply Drawn0.step)⟩
  case round =>
    clear H'
    try clear p2
    obtain ⟨x7_1,x8_1,rfl,rfl,HA,HK1,⟨m1,rfl⟩⟩:=hrel
    cases gk with
    | zero=>exact absurd HA.out (by simp [spec_l2From.l0])
    | succ k1 =>
      have H:=HA.out
      clear HA
      simp only [spec_l2From.l0] at H
      by_cases c4 : x8_1 < (wrap64 (a1 + a2))
      · rw [if_pos c4] at H
        have c4b0 : decide (x8_1 < (wrap64 (a1 + a2)))=true:=decide_eq_true c4
        clear c4
        by_cases c5 : 0 ≤ x8_1
        · rw [if_pos c5] at H
          have c5b0 : decide (0 ≤ x8_1)=true:=decide_eq_true c5
          clear c5
          by_cases c6 : x8_1 < (l0.length : Int)
          · rw [if_pos c6] at H
            have c6b0 : decide (x8_1 < (l0.length : Int))=true:=decide_eq_true c6
            clear c6
            have H':=Aside0.mk H
            clear H
            have p375 : 0 ≤ (x8_1 : Int):=of_decide_eq_true (by first|(with_reducible assumption)|assumption)
            have q375 : x8_1 < (l0.length : Int):=of_decide_eq_true (by first|(with_reducible assumption)|assumption)
            obtain ⟨ad375,e375,hx375_0⟩:=Kd.at_int HR0.out x8_1 p375 q375
            cases e375
            replace p375:=eq_true p375
            replace q375:=eq_true q375
            go_wp2
            go_roundg k1
            case measure=>have:=HK1.out;omega
            case rel=>exact ⟨(wrap64 ((wrap64 (256 * x7_1)) + (rd l0 x8_1))),(wrap64 (x8_1 + 1)),(by first|rfl|(simp;done)|(simp [*];done)),(by first|rfl|(simp;done)|(simp [*];done)),H',⟨by have:=HK1.out;omega⟩,by repeat (first|exact Drawn0.refl _|apply Drawn0.step)⟩
          · rw [if_neg c6] at H
            exact absurd H (by simp)
        · rw [if_neg c5] at H
          exact absurd H (by simp)
      · rw [if_neg c4] at H
        have c4b0 : decide (x8_1 < (wrap64 (a1 + a2)))=false:=decide_eq_false c4
        clear c4
        obtain rfl:=Option.some.inj H
        go_wp2
        go_ret
        exact ⟨by first|rfl|(simp;done)|(simp [*];done),by repeat (first|exact Drawn0.refl _|apply Drawn0.step)⟩

/-! ### spec_l11Get: function 57 -/
def spec_l11Get.f (l0 : List Int) (a1 : Int) : Option (Bool × List Int × Int × Bool):=if a1 ≥ (l0.length : Int) then (some (false,(([] : List Int)),0,false)) else (if 0 ≤ a1 then (if a1 < (l0.length : Int) then (if (rd l0 a1)=255 then (some (false,(([] : List Int)),wrap64 (a1 + 1),true)) else (if (wrap64 ((wrap64 (a1 + 1)) + (rd l0 a1))) > (l0.length : Int) then (some (false,(([] : List Int)),0,false)) else ((some (([] : List Int) : List Int)).bind fun y387=>(if 0 ≤ (wrap64 (a1 + 1)) then (if (wrap64 (a1 + 1)) ≤ (wrap64 ((wrap64 (a1 + 1)) + (rd l0 a1))) then (if (wrap64 ((wrap64 (a1 + 1)) + (rd l0 a1))) ≤ (l0.length : Int) then (if y387.length + ((l0.take ((wrap64 ((wrap64 (a1 + 1)) + (rd l0 a1))) : Int).toNat).drop ((wrap64 (a1 + 1)) : Int).toNat).length < 17592186044416 then (some (true,(y387 ++ ((l0.take ((wrap64 ((wrap64 (a1 + 1)) + (rd l0 a1))) : Int).toNat).drop ((wrap64 (a1 + 1)) : Int).toNat)),wrap64 ((wrap64 (a1 + 1)) + (rd l0 a1)),true)) else (none)) else (none)) else (none)) else (none))))) else (none)) else (none))
set_option maxHeartbeats 8000000 in
set_option maxRecDepth 100000 in
theorem spec_l11Get.calls (A0 : Option Addr) (c0 : Nat) (l0 : List Int) (a1 : Int) (r1 : Bool) (r2 : List Int) (r3 : Int) (r4 : Bool) (w : World) (hr0 : Kd.C (Kd.int .i64) w A0 l0.length l0) (hc0 : l0.length ≤ c0) (h : spec_l11Get.f l0 a1=some (r1,r2,r3,r4)) :
    Calls Try.prog 57 #[.slice A0 l0.length c0,.int .i64 a1] w fun e w'=>∃ v1_ : Value,e = .returned (.tuple #[.bool r1,v1_,.int .i64 r3,.bool r4])∧Kd.R (Kd.int .i64) 3 w' w.heap.size (fun _=>True) v1_ r2∧Below w.heap.size w w':=by
  have HR0:=Aside0.mk hr0
  have HC0:=Aside0.mk hc0
  clear hr0 hc0
  have HB:=Aside0.mk (Below.refl w.heap.size w)
  have H : (if a1 ≥ (l0.length : Int) then (some (false,(([] : List Int)),0,false)) else (if 0 ≤ a1 then (if a1 < (l0.length : Int) then (if (rd l0 a1)=255 then (some (false,(([] : List Int)),wrap64 (a1 + 1),true)) else (if (wrap64 ((wrap64 (a1 + 1)) + (rd l0 a1))) > (l0.length : Int) then (some (false,(([] : List Int)),0,false)) else ((some (([] : List Int) : List Int)).bind fun y387=>(if 0 ≤ (wrap64 (a1 + 1)) then (if (wrap64 (a1 + 1)) ≤ (wrap64 ((wrap64 (a1 + 1)) + (rd l0 a1))) then (if (wrap64 ((wrap64 (a1 + 1)) + (rd l0 a1))) ≤ (l0.length : Int) then (if y387.length + ((l0.take ((wrap64 ((wrap64 (a1 + 1)) + (rd l0 a1))) : Int).toNat).drop ((wrap64 (a1 + 1)) : Int).toNat).length < 17592186044416 then (some (true,(y387 ++ ((l0.take ((wrap64 ((wrap64 (a1 + 1)) + (rd l0 a1))) : Int).toNat).drop ((wrap64 (a1 + 1)) : Int).toNat)),wrap64 ((wrap64 (a1 + 1)) + (rd l0 a1)),true)) else (none)) else (none)) else (none)) else (none))))) else (none)) else (none)))=some (r1,r2,r3,r4):=h
  clear h
  by_cases c3 : a1 ≥ (l0.length : Int)
  · rw [if_pos c3] at H
    have c3b0 : decide ((l0.length : Int) ≤ a1)=true:=decide_eq_true c3
    clear c3
    obtain ⟨y376,hy376⟩ : ∃ y_ : List Int,y_=(([] : List Int)):=⟨_,rfl⟩
    replace H : (some (false,y376,0,false))=some (r1,r2,r3,r4):=by first|(rw [hy376];with_reducible exact H)|(have H2_:=(Option.bind_some _ _).symm.trans H;rw [hy376];with_reducible exact H2_)|(have H2_:=(Option.bind_some _ _).symm.trans H;with_reducible exact H2_)|with_reducible exact H|(rw [hy376];exact H)|exact H
    have Ny376:=Aside0.mk hy376
    clear hy376
    simp only [Option.some.injEq,Prod.mk.injEq] at H
    obtain ⟨rfl,rfl,rfl,rfl⟩:=H
    go_enter Try.func57,Try.ntmps57
    go_wp2_with (first|((with_reducible refine gate_dst (N:=13) rfl ?_);refine Kd.R_lit (Kd.int .i64) _ 3 ?hg (N:=13) ?hd (xs:=([] : List Int)) (inner:=[]) (ok:=fun _=>True) (okp:=fun _=>True) ?hr ?hp (fun _ hk=>hk) trivial (Below.refl _ _) (Nat.le_refl _) (by simp) ?_;(case hd=>rfl);(case hg=>rfl);(case hr=>first|(go_simp;done)|(go_simp;rfl));(case hp=>exact (Reps.none _ _));intro v377 w4 ho5 hb hg_ hnew_;clear hg_ hnew_;(first|rw [← Ny376.out] at ho5|(simp only [Int.reduceToNat] at ho5;rw [← Ny376.out] at ho5));have n0_:=Aside0.mk (Kd.R_lower ho5 (below_size (by repeat (first|(with_reducible first|exact HB.out|apply below_alloc|apply pw_below_drewN|apply below_drew1)|exact HB.out))));have n1_:=Aside0.mk (below_step (by repeat (first|(with_reducible first|exact HB.out|apply below_alloc|apply pw_below_drewN|apply below_drew1)|exact HB.out)) hb);clear HB;have HO378:=n0_;have HB:=n1_;clear n0_ n1_;clear hb ho5))
    refine bodyPost_ret (results_list (rs:=[.tmp 4,.tmp 5,.tmp 6,.tmp 7]) rfl (by simp) (.tmp (.tmp (.tmp (.tmp .nil))))) rfl ?_
    exact ⟨_,by first|rfl|(simp [errW_none,errW_some] <;> rfl)|(simp [*,errW_none,errW_some] <;> rfl),by (with_reducible repeat (first|apply Kd.R_alloc|apply Kd.R_drewN|apply Kd.R_drew));exact HO378.out,by repeat (first|(with_reducible first|exact HB.out|apply below_alloc|apply pw_below_drewN|apply below_drew1)|exact HB.out)⟩
  · rw [if_neg c3] at H
    have c3b0 : decide ((l0.length : Int) ≤ a1)=false:=decide_eq_false c3
    clear c3
    by_cases c6 : 0 ≤ a1
    · rw [if_pos c6] at H
      have c6b0 : decide (0 ≤ a1)=true:=decide_eq_true c6
      clear c6
      by_cases c7 : a1 < (l0.length : Int)
      · rw [if_pos c7] at H
        have c7b0 : decide (a1 < (l0.length : Int))=true:=decide_eq_true c7
        clear c7
        by_cases c8 : (rd l0 a1)=255
        · rw [if_pos c8] at H
          have c8b0 : ((rd l0 a1) == 255)=true:=beq_iff_eq.mpr c8
          have c8b1 : ((rd l0 a1) != 255)=false:=bne_eq_false_iff_eq.mpr c8
          clear c8
          obtain ⟨y380,hy380⟩ : ∃ y_ : List Int,y_=(([] : List Int)):=⟨_,rfl⟩
          replace H : (some (false,y380,wrap64 (a1 + 1),true))=some (r1,r2,r3,r4):=by first|(rw [hy380];with_reducible exact H)|(have H2_:=(Option.bind_some _ _).symm.trans H;rw [hy380];with_reducible exact H2_)|(have H2_:=(Option.bind_some _ _).symm.trans H;with_reducible exact H2_)|with_reducible exact H|(rw [hy380];exact H)|exact H
          have Ny380:=Aside0.mk hy380
          clear hy380
          simp only [Option.some.injEq,Prod.mk.injEq] at H
          obtain ⟨rfl,rfl,rfl,rfl⟩:=H
          have p379 : 0 ≤ (a1 : Int):=of_decide_eq_true (by first|(with_reducible assumption)|assumption)
          have q379 : a1 < (l0.length : Int):=of_decide_eq_true (by first|(with_reducible assumption)|assumption)
          obtain ⟨ad379,e379,hx379_0⟩:=Kd.at_int HR0.out a1 p379 q379
          cases e379
          replace p379:=eq_true p379
          replace q379:=eq_true q379
          go_enter Try.func57,Try.ntmps57
          go_wp2_with (first|((with_reducible refine gate_dst (N:=19) rfl ?_);refine Kd.R_lit (Kd.int .i64) _ 3 ?hg (N:=19) ?hd (xs:=([] : List Int)) (inner:=[]) (ok:=fun _=>True) (okp:=fun _=>True) ?hr ?hp (fun _ hk=>hk) trivial (Below.refl _ _) (Nat.le_refl _) (by simp) ?_;(case hd=>rfl);(case hg=>rfl);(case hr=>first|(go_simp;done)|(go_simp;rfl));(case hp=>exact (Reps.none _ _));intro v381 w9 ho10 hb hg_ hnew_;clear hg_ hnew_;(first|rw [← Ny380.out] at ho10|(simp only [Int.reduceToNat] at ho10;rw [← Ny380.out] at ho10));have n0_:=Aside0.mk (Kd.R_lower ho10 (below_size (by repeat (first|(with_reducible first|exact HB.out|apply below_alloc|apply pw_below_drewN|apply below_drew1)|exact HB.out))));have n1_:=Aside0.mk (below_step (by repeat (first|(with_reducible first|exact HB.out|apply below_alloc|apply pw_below_drewN|apply below_drew1)|exact HB.out)) hb);clear HB;have HO382:=n0_;have HB:=n1_;clear n0_ n1_;clear hb ho10))
          refine bodyPost_ret (results_list (rs:=[.tmp 4,.tmp 5,.tmp 6,.tmp 7]) rfl (by simp) (.tmp (.tmp (.tmp (.tmp .nil))))) rfl ?_
          exact ⟨_,by first|rfl|(simp [errW_none,errW_some] <;> rfl)|(simp [*,errW_none,errW_some] <;> rfl),by (with_reducible repeat (first|apply Kd.R_alloc|apply Kd.R_drewN|apply Kd.R_drew));exact HO382.out,by repeat (first|(with_reducible first|exact HB.out|apply below_alloc|apply pw_below_drewN|apply below_drew1)|exact HB.out)⟩
        · rw [if_neg c8] at H
          have c8b0 : ((rd l0 a1) == 255)=false:=beq_eq_false_iff_ne.mpr c8
          have c8b1 : ((rd l0 a1) != 255)=true:=bne_iff_ne.mpr c8
          by_cases c11 : (wrap64 ((wrap64 (a1 + 1)) + (rd l0 a1))) > (l0.length : Int)
          · rw [if_pos c11] at H
            have c11b0 : decide ((l0.length : Int) < (wrap64 ((wrap64 (a1 + 1)) + (rd l0 a1))))=true:=decide_eq_true c11
            clear c11
            obtain ⟨y384,hy384⟩ : ∃ y_ : List Int,y_=(([] : List Int)):=⟨_,rfl⟩
            replace H : (some (false,y384,0,false))=some (r1,r2,r3,r4):=by first|(rw [hy384];with_reducible exact H)|(have H2_:=(Option.bind_some _ _).symm.trans H;rw [hy384];with_reducible exact H2_)|(have H2_:=(Option.bind_some _ _).symm.trans H;with_reducible exact H2_)|with_reducible exact H|(rw [hy384];exact H)|exact H
            have Ny384:=Aside0.mk hy384
            clear hy384
            simp only [Option.some.injEq,Prod.mk.injEq] at H
            obtain ⟨rfl,rfl,rfl,rfl⟩:=H
            have p379 : 0 ≤ (a1 : Int):=of_decide_eq_true (by first|(with_reducible assumption)|assumption)
            have q379 : a1 < (l0.length : Int):=of_decide_eq_true (by first|(with_reducible assumption)|assumption)
            obtain ⟨ad379,e379,hx379_0⟩:=Kd.at_int HR0.out a1 p379 q379
            cases e379
            replace p379:=eq_true p379
            replace q379:=eq_true q379
            have p383 : 0 ≤ (a1 : Int):=of_decide_eq_true (by first|(with_reducible assumption)|assumption)
            have q383 : a1 < (l0.length : Int):=of_decide_eq_true (by first|(with_reducible assumption)|assumption)
            obtain ⟨ad383,e383,hx383_0⟩:=Kd.at_int HR0.out a1 p383 q383
            obtain rfl : ad379=ad383:=(by injection e383)
            replace p383:=eq_true p383
            replace q383:=eq_true q383
            go_enter Try.func57,Try.ntmps57
            go_wp2_with (first|((with_reducible refine gate_dst (N:=33) rfl ?_);refine Kd.R_lit (Kd.int .i64) _ 3 ?hg (N:=33) ?hd (xs:=([] : List Int)) (inner:=[]) (ok:=fun _=>True) (okp:=fun _=>True) ?hr ?hp (fun _ hk=>hk) trivial (Below.refl _ _) (Nat.le_refl _) (by simp) ?_;(case hd=>rfl);(case hg=>rfl);(case hr=>first|(go_simp;done)|(go_simp;rfl));(case hp=>exact (Reps.none _ _));intro v385 w12 ho13 hb hg_ hnew_;clear hg_ hnew_;(first|rw [← Ny384.out] at ho13|(simp only [Int.reduceToNat] at ho13;rw [← Ny384.out] at ho13));have n0_:=Aside0.mk (Kd.R_lower ho13 (below_size (by repeat (first|(with_reducible first|exact HB.out|apply below_alloc|apply pw_below_drewN|apply below_drew1)|exact HB.out))));have n1_:=Aside0.mk (below_step (by repeat (first|(with_reducible first|exact HB.out|apply below_alloc|apply pw_below_drewN|apply below_drew1)|exact HB.out)) hb);clear HB;have HO386:=n0_;have HB:=n1_;clear n0_ n1_;clear hb ho13))
            refine bodyPost_ret (results_list (rs:=[.tmp 4,.tmp 5,.tmp 6,.tmp 7]) rfl (by simp) (.tmp (.tmp (.tmp (.tmp .nil))))) rfl ?_
            exact ⟨_,by first|rfl|(simp [errW_none,errW_some] <;> rfl)|(simp [*,errW_none,errW_some] <;> rfl),by (with_reducible repeat (first|apply Kd.R_alloc|apply Kd.R_drewN|apply Kd.R_drew));exact HO386.out,by repeat (first|(with_reducible first|exact HB.out|apply below_alloc|apply pw_below_drewN|apply below_drew1)|exact HB.out)⟩
          · rw [if_neg c11] at H
            have c11b0 : decide ((l0.length : Int) < (wrap64 ((wrap64 (a1 + 1)) + (rd l0 a1))))=false:=decide_eq_false c11
            clear c11
            obtain ⟨y387,hy387⟩ : ∃ y_ : List Int,y_=(([] : List Int)):=⟨_,rfl⟩
            replace H : (if 0 ≤ (wrap64 (a1 + 1)) then (if (wrap64 (a1 + 1)) ≤ (wrap64 ((wrap64 (a1 + 1)) + (rd l0 a1))) then (if (wrap64 ((wrap64 (a1 + 1)) + (rd l0 a1))) ≤ (l0.length : Int) then (if y387.length + ((l0.take ((wrap64 ((wrap64 (a1 + 1)) + (rd l0 a1))) : Int).toNat).drop ((wrap64 (a1 + 1)) : Int).toNat).length < 17592186044416 then (some (true,(y387 ++ ((l0.take ((wrap64 ((wrap64 (a1 + 1)) + (rd l0 a1))) : Int).toNat).drop ((wrap64 (a1 + 1)) : Int).toNat)),wrap64 ((wrap64 (a1 + 1)) + (rd l0 a1)),true)) else (none)) else (none)) else (none)) else (none))=some (r1,r2,r3,r4):=by first|(rw [hy387];with_reducible exact H)|(have H2_:=(Option.bind_some _ _).symm.trans H;rw [hy387];with_reducible exact H2_)|(have H2_:=(Option.bind_some _ _).symm.trans H;with_reducible exact H2_)|with_reducible exact H|(rw [hy387];exact H)|exact H
            have Ny387:=Aside0.mk hy387
            clear hy387
            obtain ⟨ji14,hji14⟩ : ∃ j_ : Int,(wrap64 (a1 + 1))=j_:=⟨_,rfl⟩
            replace H : (if 0 ≤ (ji14) then (if (ji14) ≤ (wrap64 ((ji14) + (rd l0 a1))) then (if (wrap64 ((ji14) + (rd l0 a1))) ≤ (l0.length : Int) then (if y387.length + ((l0.take ((wrap64 ((ji14) + (rd l0 a1))) : Int).toNat).drop ((ji14) : Int).toNat).length < 17592186044416 then (some (true,(y387 ++ ((l0.take ((wrap64 ((ji14) + (rd l0 a1))) : Int).toNat).drop ((ji14) : Int).toNat)),wrap64 ((ji14) + (rd l0 a1)),true)) else (none)) else (none)) else (none)) else (none))=some (r1,r2,r3,r4):=by first|(rw [hji14] at H;exact H)|(simp only [hji14] at H ⊢;exact H)
            (try rw [hji14] at c11b0)
            have hji14w : (IntKind.i64.wrap (a1 + 1))=ji14:=(i64_w _).trans hji14
            by_cases c15 : 0 ≤ (ji14)
            · rw [if_pos c15] at H
              have c15b0:=eq_true c15
              have c15b1 : decide (0 ≤ (ji14))=true:=decide_eq_true c15
              clear c15
              by_cases c16 : (ji14) ≤ (wrap64 ((ji14) + (rd l0 a1)))
              · rw [if_pos c16] at H
                have c16b0:=eq_true c16
                have c16b1 : decide ((ji14) ≤ (wrap64 ((ji14) + (rd l0 a1))))=true:=decide_eq_true c16
                by_cases c17 : (wrap64 ((ji14) + (rd l0 a1))) ≤ (l0.length : Int)
                · rw [if_pos c17] at H
                  have c17b0:=eq_true c17
                  have c17b1 : decide ((wrap64 ((ji14) + (rd l0 a1))) ≤ (l0.length : Int))=true:=decide_eq_true c17
                  by_cases c18 : y387.length + ((l0.take ((wrap64 ((ji14) + (rd l0 a1))) : Int).toNat).drop ((ji14) : Int).toNat).length < 17592186044416
                  · rw [if_pos c18] at H
                    have LMc18:=Aside0.mk c18
                    clear c18
                    obtain ⟨y391,hy391⟩ : ∃ y_ : List Int,y_=(y387 ++ ((l0.take ((wrap64 ((ji14) + (rd l0 a1))) : Int).toNat).drop ((ji14) : Int).toNat)):=⟨_,rfl⟩
                    replace H : (some (true,y391,wrap64 ((ji14) + (rd l0 a1)),true))=some (r1,r2,r3,r4):=by first|(rw [hy391];with_reducible exact H)|(have H2_:=(Option.bind_some _ _).symm.trans H;rw [hy391];with_reducible exact H2_)|(have H2_:=(Option.bind_some _ _).symm.trans H;with_reducible exact H2_)|with_reducible exact H|(rw [hy391];exact H)|exact H
                    have Ny391:=Aside0.mk hy391
                    clear hy391
                    simp only [Option.some.injEq,Prod.mk.injEq] at H
                    obtain ⟨rfl,rfl,rfl,rfl⟩:=H
                    have p379 : 0 ≤ (a1 : Int):=of_decide_eq_true (by first|(with_reducible assumption)|assumption)
                    have q379 : a1 < (l0.length : Int):=of_decide_eq_true (by first|(with_reducible assumption)|assumption)
                    obtain ⟨ad379,e379,hx379_0⟩:=Kd.at_int HR0.out a1 p379 q379
                    cases e379
                    replace p379:=eq_true p379
                    replace q379:=eq_true q379
                    have p383 : 0 ≤ (a1 : Int):=of_decide_eq_true (by first|(with_reducible assumption)|assumption)
                    have q383 : a1 < (l0.length : Int):=of_decide_eq_true (by first|(with_reducible assumption)|assumption)
                    obtain ⟨ad383,e383,hx383_0⟩:=Kd.at_int HR0.out a1 p383 q383
                    obtain rfl : ad379=ad383:=(by injection e383)
                    replace p383:=eq_true p383
                    replace q383:=eq_true q383
                    go_enter Try.func57,Try.ntmps57
                    go_wp2_with (first|((with_reducible refine gate_dst (N:=34) rfl ?_);refine Kd.R_lit (Kd.int .i64) _ 3 ?hg (N:=34) ?hd (xs:=([] : List Int)) (inner:=[]) (ok:=fun _=>True) (okp:=fun _=>True) ?hr ?hp (fun _ hk=>hk) trivial (Below.refl _ _) (Nat.le_refl _) (by simp) ?_;(case hd=>rfl);(case hg=>rfl);(case hr=>first|(go_simp;done)|(go_simp;rfl));(case hp=>exact (Reps.none _ _));intro v388 w19 ho20 hb hg_ hnew_;clear hg_ hnew_;(first|rw [← Ny387.out] at ho20|(simp only [Int.reduceToNat] at ho20;rw [← Ny387.out] at ho20));have n0_:=Aside0.mk (Kd.R_lower ho20 (below_size (by repeat (first|(with_reducible first|exact HB.out|apply below_alloc|apply pw_below_drewN|apply below_drew1)|exact HB.out))));have n1_:=Aside0.mk (below_step (by repeat (first|(with_reducible first|exact HB.out|apply below_alloc|apply pw_below_drewN|apply below_drew1)|exact HB.out)) hb);clear HB;have HO389:=n0_;have HB:=n1_;clear n0_ n1_;clear hb ho20;obtain ⟨i021,hi021,_,hsz21,_⟩:=info_parts info3;obtain ⟨A21,hcut21,hA21,hC21⟩:=print_mid_of (P:=Try.prog) (Value.int .i64) 0 23 3 .i64 .i64 Try.underlying23 hi021 hsz21 (some ad379) c0 l0 (ji14) (wrap64 ((ji14) + (rd l0 a1))) (of_decide_eq_true (by first|(with_reducible assumption)|assumption)) (by first|omega|exact of_decide_eq_true (by first|(with_reducible assumption)|assumption)) (of_decide_eq_true (by first|(with_reducible assumption)|assumption)) HC0.out;have HR390:=Aside0.mk (Kd.C_of_reads (h1:=fun _=>rfl) (hA21 _ (Kd.reads_of_C HR0.out)));have HC390:=Aside0.mk hC21;clear hA21 hC21 hi021 hsz21)|((with_reducible refine gate_builtin (b:=.append) (xs:=#[.tmp 34,.tmp 39]) rfl ?_);at_builtin;refine Kd.R_append_rows (Kd.int .i64) (w0:=w) w.heap.size rfl (.tmp 34) (.tmp 39) 23 3 (.int .i64 0) 8 rfl Try.underlying23 info3 rfl (by decide) (by omega) v388 y387 ((l0.take ((wrap64 ((ji14) + (rd l0 a1))) : Int).toNat).drop ((ji14) : Int).toNat) _ _ _ (fun _=>True) (fun _=>False) rfl rfl ?aO ?aR (fun _ _ h=>h) (fun _ h=>h.elim) ?aF ?aB ?aS ?aL ?_;(case aR=>first|(rw [← show ((l0.take ((wrap64 ((ji14) + (rd l0 a1))) : Int).toNat).drop ((ji14) : Int).toNat).length=((wrap64 ((ji14) + (rd l0 a1))).toNat - (ji14).toNat) from (by rw [List.length_drop,List.length_take];have h_ : ((wrap64 ((ji14) + (rd l0 a1))) : Int) ≤ (l0.length : Int):=of_decide_eq_true (by first|(with_reducible assumption)|assumption);omega)];repeat (first|exact (Kd.C_below HR390.out HB.out)|(with_reducible refine Kd.C_alloc ?_ _)|(with_reducible refine Kd.C_drewN ?_ _)|(with_reducible refine Kd.C_drew ?_)))|(repeat (first|exact (Kd.C_below HR390.out HB.out)|(with_reducible refine Kd.C_alloc ?_ _)|(with_reducible refine Kd.C_drewN ?_ _)|(with_reducible refine Kd.C_drew ?_))));(case aB=>exact (by repeat (first|(with_reducible first|exact HB.out|apply below_alloc|apply pw_below_drewN|apply below_drew1)|exact HB.out)));(case aF=>exact (fun _ _=>trivial));(case aO=>exact (by (with_reducible repeat (first|apply Kd.R_alloc|apply Kd.R_drewN|apply Kd.R_drew));exact HO389.out));(case aS=>exact (below_size (by repeat (first|(with_reducible first|exact HB.out|apply below_alloc|apply pw_below_drewN|apply below_drew1)|exact HB.out))));(case aL=>have:=LMc18.out;have hlx_:=(show ((l0.take ((wrap64 ((ji14) + (rd l0 a1))) : Int).toNat).drop ((ji14) : Int).toNat).length=((wrap64 ((ji14) + (rd l0 a1))).toNat - (ji14).toNat) from (by rw [List.length_drop,List.length_take];have h_ : ((wrap64 ((ji14) + (rd l0 a1))) : Int) ≤ (l0.length : Int):=of_decide_eq_true (by first|(with_reducible assumption)|assumption);omega));omega);intro v392 w22 ho hb hg hat;rw [← Ny391.out] at ho;have n0_:=Aside0.mk (hb);have n1_:=Aside0.mk (ho);clear HB;clear HO389;have HB:=n0_;have HO393:=n1_;clear n0_ n1_;clear ho hb hg hat))
                    refine bodyPost_ret (results_list (rs:=[.tmp 4,.tmp 5,.tmp 6,.tmp 7]) rfl (by simp) (.tmp (.tmp (.tmp (.tmp .nil))))) rfl ?_
                    exact ⟨_,by first|rfl|(simp [errW_none,errW_some] <;> rfl)|(simp only [← hji14];first|rfl|(simp [errW_none,errW_some] <;> rfl))|(simp [*,errW_none,errW_some] <;> rfl),by (with_reducible repeat (first|apply Kd.R_alloc|apply Kd.R_drewN|apply Kd.R_drew));exact HO393.out,by repeat (first|(with_reducible first|exact HB.out|apply below_alloc|apply pw_below_drewN|apply below_drew1)|exact HB.out)⟩
                  · rw [if_neg c18] at H
                    exact absurd H (by simp)
                · rw [if_neg c17] at H
                  exact absurd H (by simp)
              · rw [if_neg c16] at H
                exact absurd H (by simp)
            · rw [if_neg c15] at H
              exact absurd H (by simp)
      · rw [if_neg c7] at H
        exact absurd H (by simp)
    · rw [if_neg c6] at H
      exact absurd H (by simp)

end Go.Proofs.Ytmpnedpokdaejaa.QFnOldTorn
