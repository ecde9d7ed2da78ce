/- Part 6 of the proof of the row StripeRenews: written for this claim by the session and by a program of its own. -/
import Derived.Test.YtipjnfljkknmgaaCStripeRenewsp5
import Derived.WalkSpells
import Derived.RangeFuncNested
import Derived.RangeFuncBound
import Derived.RangeFuncCalls
import Derived.RangeFuncLeaves
import Derived.RangeFuncFrom
import Derived.OwnWalkIn
import Derived.TacticsInMore
import Derived.LoopNIn
import Derived.LoopIn
namespace Go.Proofs.Ytipjnfljkknmgaa.Q
open Go.RowKit Go.Proofs.YtipjnfljkknmgaaW.PrintWords Go.Proofs.YtipjnfljkknmgaaW.PrintLast Go.Proofs.YtipjnfljkknmgaaW.PrintMore
attribute [local go_sem] max2_int min2_int max_two min_two max_three min_three max_four min_four   -- for this text's walks alone
set_option linter.unusedVariables false
set_option linter.unusedSimpArgs false
def api_Place_36.l0 : Nat → List (S32) → Int → List (S32) → Int → Int → Option ((List (S32)))
  | 0, _, _, _, _, _ => none
  | k + 1, x0, x1, x7, x9, x10 => if x10 < x9 then (if (x0.length : Int) = 0 then (none) else (if 0 ≤ (Int.tmod (wrap64 (x1 + x10)) (x0.length : Int)) then (if (Int.tmod (wrap64 (x1 + x10)) (x0.length : Int)) < (x0.length : Int) then (if x7.length < 8796093022208 then (api_Place_36.l0 k x0 x1 (x7 ++ [(⟨(rd_T32 x0 (Int.tmod (wrap64 (x1 + x10)) (x0.length : Int))).f0, (rd_T32 x0 (Int.tmod (wrap64 (x1 + x10)) (x0.length : Int))).f1⟩ : S32)]) x9 (wrap64 (x10 + 1))) else (none)) else (none)) else (none))) else (some x7)
def api_Place_36.f (k : Nat) (l0 : List (S32)) (a1 : Int) (a2 : Int) : Option ((List (S32))) := api_Place_36.l0 k l0 a1 ([] : List (S32)) a2 0
set_option maxHeartbeats 8000000 in
set_option maxRecDepth 100000 in
theorem api_Place_36.calls (k : Nat) (A0 : Option Addr) (c0 : Nat) (l0 : List (S32)) (a1 : Int) (a2 : Int) (r : List (S32)) (w : World) (hr0 : Kd.C k32 w A0 l0.length l0) (hc0 : l0.length ≤ c0) (h : api_Place_36.f k l0 a1 a2 = some r) :
    Calls Try.prog 36 #[.slice A0 l0.length c0, .int .i64 a1, .int .i64 a2] w fun e w' => ∃ v0_ : Value, e = .returned (v0_) ∧ Kd.R k32 32 w' w.heap.size (fun _ => True) v0_ r ∧ Below w.heap.size w w' := by
  have hu32 := Try.underlying32
  have HR0 := Aside0.mk hr0
  have HC0 := Aside0.mk hc0
  clear hr0 hc0
  have HB := Aside0.mk (Below.refl w.heap.size w)
  have H : (api_Place_36.l0 k l0 a1 ([] : List (S32)) a2 0) = some r := h
  clear h
  have H' := Aside0.mk H
  clear H
  go_enter Try.func36, Try.ntmps36
  go_wp2
  go_loopg [7, 10] k (fun kq v7 v10 w' => ∃ (x7_1 : List (S32)) (x10_1 : Int), v10 = .int .i64 x10_1 ∧ Aside0 (api_Place_36.l0 kq l0 a1 x7_1 a2 x10_1 = some r) ∧ Aside0 (kq ≤ k) ∧ Aside0 (Kd.R k32 32 w' w.heap.size (fun _ => True) v7 x7_1) ∧ Aside0 (Below w.heap.size w w'))
  case atStart => exact ⟨(([] : List (S32))), (0), (by first | rfl | (simp; done) | (simp [*]; done)), H', ⟨Nat.le_refl _⟩, ⟨by first | exact Kd.R_nil _ _ _ _ _ | exact Kd.N_nil _ _ _ _ _ | exact Kd.V_nil _ _ _ _ _ | exact Kd.Q_nil _ _ _ _ _ | exact Kd.S_nil _ _ _ _ _⟩, ⟨by repeat (first | (with_reducible first | exact HB.out | apply below_alloc | apply pw_below_drewN | apply below_drew1) | exact HB.out)⟩⟩
  case round =>
    clear H'
    try clear p2
    try clear c3
    obtain ⟨x7_1, x10_1, rfl, HA, HK1, HO_7, HB⟩ := hrel
    cases gk with
    | zero => exact absurd HA.out (by simp [api_Place_36.l0])
    | succ k1 =>
      have H := HA.out
      clear HA
      simp only [api_Place_36.l0] at H
      by_cases c4 : x10_1 < a2
      · rw [if_pos c4] at H
        have c4b0 : decide (x10_1 < a2) = true := decide_eq_true c4
        clear c4
        by_cases c5 : (l0.length : Int) = 0
        · rw [if_pos c5] at H
          exact absurd H (by simp)
        · rw [if_neg c5] at H
          have c5b0 : ((l0.length : Int) == 0) = false := beq_eq_false_iff_ne.mpr c5
          have c5b1 : ((l0.length : Int) != 0) = true := bne_iff_ne.mpr c5
          have c5b2 : ¬ (l0 = []) := fun h_ => c5 (by rw [h_]; rfl)
          obtain ⟨ji6, hji6⟩ : ∃ j_ : Int, (Int.tmod (wrap64 (a1 + x10_1)) (l0.length : Int)) = j_ := ⟨_, rfl⟩
          replace H : (if 0 ≤ (ji6) then (if (ji6) < (l0.length : Int) then (if x7_1.length < 8796093022208 then (api_Place_36.l0 k1 l0 a1 (x7_1 ++ [(⟨(rd_T32 l0 (ji6)).f0, (rd_T32 l0 (ji6)).f1⟩ : S32)]) a2 (wrap64 (x10_1 + 1))) else (none)) else (none)) else (none)) = some r := by first | (rw [hji6] at H; exact H) | (simp only [hji6] at H ⊢; exact H)
          by_cases c7 : 0 ≤ (ji6)
          · rw [if_pos c7] at H
            have c7b0 : decide (0 ≤ (ji6)) = true := decide_eq_true c7
            clear c7
            by_cases c8 : (ji6) < (l0.length : Int)
            · rw [if_pos c8] at H
              have c8b0 : decide ((ji6) < (l0.length : Int)) = true := decide_eq_true c8
              clear c8
              by_cases c9 : x7_1.length < 8796093022208
              · rw [if_pos c9] at H
                have LMc9 := Aside0.mk c9
                clear c9
                obtain ⟨y113, hy113⟩ : ∃ y_ : List (S32), y_ = (x7_1 ++ [(⟨(rd_T32 l0 (ji6)).f0, (rd_T32 l0 (ji6)).f1⟩ : S32)]) := ⟨_, rfl⟩
                replace H : (api_Place_36.l0 k1 l0 a1 y113 a2 (wrap64 (x10_1 + 1))) = some r := by first | (rw [hy113]; with_reducible exact H) | (have H2_ := (Option.bind_some _ _).symm.trans H; rw [hy113]; with_reducible exact H2_) | (have H2_ := (Option.bind_some _ _).symm.trans H; with_reducible exact H2_) | with_reducible exact H | (rw [hy113]; exact H) | exact H
                have Ny113 := Aside0.mk hy113
                clear hy113
                have H' := Aside0.mk H
                clear H
                have p112 : 0 ≤ ((ji6) : Int) := of_decide_eq_true (by first | (with_reducible assumption) | assumption)
                have q112 : (ji6) < (l0.length : Int) := of_decide_eq_true (by first | (with_reducible assumption) | assumption)
                obtain ⟨ad112, e112, hx112_0, hx112_1⟩ := at_T32 HR0.out (ji6) p112 q112
                cases e112
                replace hx112_0 := (HB.out.cell (World.block_lt_of_cell? w _ hx112_0)).trans hx112_0
                replace hx112_1 := (HB.out.cell (World.block_lt_of_cell? w _ hx112_1)).trans hx112_1
                replace p112 := eq_true p112
                replace q112 := eq_true q112
                go_wp2_with (first | ((with_reducible refine gate_builtin (b := .append) (xs := #[.tmp 13, .tmp 23]) rfl ?_); at_builtin; refine Kd.R_append k32 (w0 := w) w.heap.size rfl (.tmp 13) (.tmp 23) 23 32 (.agg #[(.int .i64 0), (.int .u64 0)]) 16 rfl Try.underlying23 info32 rfl (by decide) (by omega) u7 x7_1 (⟨(rd_T32 l0 (ji6)).f0, (rd_T32 l0 (ji6)).f1⟩ : S32) [.int .i64 ((rd_T32 l0 (ji6)).f0), .int .u64 ((rd_T32 l0 (ji6)).f1)] (fun _ => True) (fun _ => False) rfl rfl ?aP (fun _ hk => hk.elim) ?aF ?aO ?aB ?aS ?aL ?_; (case aP => exact k32_mkM _ _ _ (⟨(rd_T32 l0 (ji6)).f0, (rd_T32 l0 (ji6)).f1⟩ : S32)); (case aB => exact (Hb HB.out)); (case aF => exact (fun _ _ => trivial)); (case aO => exact (Rb HO_7.out)); (case aS => exact (below_size (Hb HB.out))); (case aL => have := LMc9.out; omega); intro v114 w10 ho hb hg hat; rw [← Ny113.out] at ho; have n0_ := Aside0.mk (hb); have n1_ := Aside0.mk (ho); clear HB; clear HO_7; have HB := n0_; have HO115 := n1_; clear n0_ n1_; clear ho hb hg hat))
                go_roundg k1
                case measure => have := HK1.out; omega
                case rel => exact ⟨(y113), (wrap64 (x10_1 + 1)), (by first | rfl | (simp; done) | (simp [*]; done)), H', ⟨by have := HK1.out; omega⟩, ⟨by (with_reducible repeat (first | apply Kd.R_alloc | apply Kd.R_drewN | apply Kd.R_drew)); exact HO115.out⟩, ⟨by repeat (first | (with_reducible first | exact HB.out | apply below_alloc | apply pw_below_drewN | apply below_drew1) | exact HB.out)⟩⟩
              · rw [if_neg c9] at H
                exact absurd H (by simp)
            · rw [if_neg c8] at H
              exact absurd H (by simp)
          · rw [if_neg c7] at H
            exact absurd H (by simp)
      · rw [if_neg c4] at H
        have c4b0 : decide (x10_1 < a2) = false := decide_eq_false c4
        clear c4
        obtain rfl := Option.some.inj H
        go_wp2
        go_ret
        exact ⟨_, by first | rfl | (simp [errW_none, errW_some] <;> rfl) | (simp [*, errW_none, errW_some] <;> rfl), by (with_reducible repeat (first | apply Kd.R_alloc | apply Kd.R_drewN | apply Kd.R_drew)); exact HO_7.out, by repeat (first | (with_reducible first | exact HB.out | apply below_alloc | apply pw_below_drewN | apply below_drew1) | exact HB.out)⟩
end Go.Proofs.Ytipjnfljkknmgaa.Q
namespace Go.Proofs.Ytipjnfljkknmgaa.Q
open Go.RowKit Go.Proofs.YtipjnfljkknmgaaW.PrintWords Go.Proofs.YtipjnfljkknmgaaW.PrintLast Go.Proofs.YtipjnfljkknmgaaW.PrintMore
set_option linter.unusedVariables false
set_option linter.unusedSimpArgs false
def api_Place_44.f (l0 : List S32) : Option (List S32) := if l0.length < 8796093022208 then some l0 else none
set_option maxHeartbeats 8000000 in
set_option maxRecDepth 100000 in
theorem api_Place_44.calls (A0 : Option Addr) (c0 : Nat) (l0 : List S32) (r : List S32) (w : World) (hr0 : Kd.C k32 w A0 l0.length l0) (hc0 : l0.length ≤ c0) (h : api_Place_44.f l0 = some r) :
    Calls Try.prog 44 #[.slice A0 l0.length c0] w fun e w' => ∃ v0_ : Value, e = .returned v0_ ∧ Kd.R k32 32 w' w.heap.size (fun _ => True) v0_ r ∧ Below w.heap.size w w' := by
  have HR0 := Aside0.mk hr0
  have HC0 := Aside0.mk hc0
  have HB := Aside0.mk (Below.refl w.heap.size w)
  unfold api_Place_44.f at h
  split at h
  · rename_i hl
    have LM := Aside0.mk hl
    clear hl
    obtain rfl := Option.some.inj h
    clear h hr0 hc0
    cases A0 with
    | none =>
      have hl : l0 = [] := by
        rcases l0 with _ | ⟨x, l⟩
        · rfl
        · exact absurd (HR0.out.2.2 (by simp)) (by rintro ⟨ad, e, _⟩; cases e)
      subst hl
      have hnil := fun w' => Lib.run_eql_slice_nil (P := Try.prog) w' 23 32 none 0 c0 0 0 Try.underlying23
      show Calls Try.prog 44 #[.slice none 0 c0] w _
      go_enter Try.func44, Try.ntmps44
      go_wp2
      go_ret
      exact ⟨_, rfl, Kd.R_nil _ _ _ _ _, HB.out⟩
    | some ad =>
      have hnil := fun w' => Lib.run_eql_slice_nil (P := Try.prog) w' 23 32 (some ad) l0.length c0 0 0 Try.underlying23
      go_enter Try.func44, Try.ntmps44
      go_wp2_with (first | ((with_reducible refine gate_dst (N := 5) rfl ?_); refine Kd.R_lit k32 _ 32 ?hg (N := 5) ?hd (xs := ([] : List S32)) (inner := []) (ok := fun _ => True) (okp := fun _ => True) ?hr ?hp (fun _ hk => hk) trivial (Below.refl _ _) (Nat.le_refl _) (by simp) ?_; (case hd => rfl); (case hg => rfl); (case hr => first | (go_simp; done) | (go_simp; rfl)); (case hp => exact (Reps.none _ _)); intro v1 w1 ho1 hb hg_ hnew_; clear hg_ hnew_; have HO1 := Aside0.mk ho1; have HB1 := Aside0.mk hb; clear ho1 hb HB) | ((with_reducible refine gate_builtin (b := .append) (xs := #[.tmp 5, .tmp 6]) rfl ?_); at_builtin; refine Kd.R_append_rows k32 (Rr := k32.K w1) (w0 := w) w.heap.size rfl (.tmp 5) (.tmp 6) 23 32 (.agg #[(.int .i64 0), (.int .u64 0)]) 16 rfl Try.underlying23 info32 rfl (by decide) (by omega) v1 [] l0 (some ad) l0.length c0 (fun _ => True) (fun _ => False) rfl rfl ?aO ?aR ?aK (fun _ h => h.elim) ?aF ?aB ?aS ?aL ?_; (case aO => exact HO1.out); (case aR => exact Kd.C_below HR0.out HB1.out); (case aK => intro x cs hk; obtain rfl := k32_open hk; exact k32_mkM _ _ _ x); (case aF => exact (fun _ _ => trivial)); (case aB => exact HB1.out); (case aS => exact below_size HB1.out); (case aL => have := LM.out; simp; omega); intro v2 w2 ho2 hb2 hg2 hat2; clear hg2 hat2; have HO2 := Aside0.mk ho2; have HB2 := Aside0.mk hb2; clear ho2 hb2))
      go_ret
      exact ⟨_, rfl, by simpa using HO2.out, HB2.out⟩
  · exact absurd h (by simp)
end Go.Proofs.Ytipjnfljkknmgaa.Q
namespace Go.Proofs.Ytipjnfljkknmgaa.Q
open Go.RowKit Go.Proofs.YtipjnfljkknmgaaW.PrintWords Go.Proofs.YtipjnfljkknmgaaW.PrintLast Go.Proofs.YtipjnfljkknmgaaW.PrintMore
set_option linter.unusedVariables false
set_option linter.unusedSimpArgs false
def lastGo (n : Int) : List S25 → S25 × Bool → S25 × Bool
  | [], a => a
  | x :: l, a => lastGo n l (if x.f0 ≤ n then (x, true) else a)
def stripe_Frag.f (l0 : List S25) (a1 : Int) : Option (Int × List S32 × Bool) :=
  let r := lastGo a1 l0 (z25, false)
  if r.1.f1.length < 8796093022208 then some (r.1.f0, r.1.f1, r.2) else none
theorem drop_rd (l : List S25) (i : Nat) (h : i < l.length) : l.drop i = rd_T25 l (i : Int) :: l.drop (i + 1) := by
  rw [List.drop_eq_getElem_cons h]
  simp [rd_T25, List.getD_eq_getElem?_getD, List.getElem?_eq_getElem h]
set_option maxHeartbeats 8000000 in
set_option maxRecDepth 100000 in
theorem frag1_calls (x n : Int) (A : Option Addr) (m c : Nat) (b : Nat) (w : World) (hb : w.heap[b]? = some (.cells #[.int .u64 n] 22 (0, 0))) :
    Calls Try.prog 53 #[.agg #[.int .u64 x, .slice A m c], .pointer (some ⟨b, 0, none⟩)] w fun e w' => e = .returned (.bool (decide (x ≤ n))) ∧ Below w.heap.size w w' := by
  have HB := Aside0.mk (Below.refl w.heap.size w)
  have hc := (blk_cell hb 0)
  have hlt := blk_lt hb
  go_enter Try.func53, Try.ntmps53
  go_wp2
  go_ret
  exact ⟨rfl, (by repeat (first | (with_reducible first | exact HB.out | apply below_alloc | apply pw_below_drewN | apply below_drew1) | exact HB.out))⟩
/-- The last one of a row whose First is at most n: the loop of stripe.last over the closure of stripe.Frag. -/
theorem last_calls (A0 : Option Addr) (c0 : Nat) (l0 : List S25) (n : Int) (gb : Nat) (w0 w : World) (hB0 : Below w0.heap.size w0 w) (hr0 : Kd.C k25 w0 A0 l0.length l0) (hb : w.heap[gb]? = some (.cells #[.int .u64 n] 22 (0, 0))) :
    Calls Try.prog 52 #[.slice A0 l0.length c0, .func (.func 53) #[] #[.pointer (some ⟨gb, 0, none⟩)]] w fun e w' => ∃ (A : Option Addr) (c : Nat), e = .returned (.tuple #[.agg #[.int .u64 (lastGo n l0 (z25, false)).1.f0, .slice A (lastGo n l0 (z25, false)).1.f1.length c], .bool (lastGo n l0 (z25, false)).2]) ∧ (lastGo n l0 (z25, false)).1.f1.length ≤ c ∧ k32.C w0 A (lastGo n l0 (z25, false)).1.f1.length (lastGo n l0 (z25, false)).1.f1 ∧ Below w.heap.size w w' := by
  have HB := Aside0.mk (Below.refl w.heap.size w)
  have HR0 := Aside0.mk hr0
  have HB0 := Aside0.mk hB0
  have hlen : l0.length ≤ 9223372036854775807 := hr0.2.1
  generalize hr : lastGo n l0 (z25, false) = r
  have Hr := Aside0.mk hr
  have Hbk := Aside0.mk hb
  clear hr hr0 hb hB0
  go_enter Try.func52, Try.ntmps52
  go_wp2_with (first | ((with_reducible refine gate_dst (N := 4) rfl ?_); refine box_event ?hg (N := 4) ?hd (cs := #[.int .u64 0, .slice none 0 0]) (t := 25) ?hr ?_; (case hd => rfl); (case hg => rfl); (case hr => first | (go_simp; done) | (go_simp; rfl)); intro g4 hg w4 hbox hb; have n0_ := Aside0.mk (below_step (by repeat (first | (with_reducible first | exact HB.out | apply below_alloc | apply pw_below_drewN | apply below_drew1) | exact HB.out)) hb); have BK4 := Aside0.mk hbox; have GE4 := Aside0.mk ((by rw [hg]; exact (below_size (by repeat (first | (with_reducible first | exact HB.out | apply below_alloc | apply pw_below_drewN | apply below_drew1) | exact HB.out)))) : w.heap.size ≤ g4); clear HB; have HB := n0_; clear n0_; clear hb hbox hg; have hc4_0 : w4.cell? ⟨g4, 0, none⟩ = some (.int .u64 0) := (blk_cell BK4.out 0).trans rfl; have hf4_0 := blk_frozen BK4.out 0; have hc4_1 : w4.cell? ⟨g4, 1, none⟩ = some (.slice none 0 0) := (blk_cell BK4.out 1).trans rfl; have hf4_1 := blk_frozen BK4.out 1))
  go_loopg [5, 10] l0.length (fun kq v5 v10 w' => ∃ (i : Nat) (x : S25) (ok : Bool) (A : Option Addr) (c : Nat), v5 = .bool ok ∧ v10 = .int .i64 i ∧ Aside0 (lastGo n (l0.drop i) (x, ok) = r) ∧ Aside0 (i + kq = l0.length) ∧ Aside0 (w'.heap[g4]? = some (.cells #[.int .u64 x.f0, .slice A x.f1.length c] 25 (0, 0))) ∧ Aside0 (x.f1.length ≤ c ∧ k32.C w0 A x.f1.length x.f1) ∧ Aside0 (Below w.heap.size w w'))
  case atStart => exact ⟨0, z25, false, none, 0, rfl, rfl, ⟨by simpa using Hr.out⟩, ⟨by omega⟩, ⟨BK4.out⟩, ⟨by simp [z25], by simp [z25, Kd.C, ReadsRow]⟩, HB⟩
  case round =>
    clear Hr HB BK4
    obtain ⟨i, x, ok, A, c, rfl, rfl, HG, HI, BK4, HC, HB⟩ := hrel
    by_cases hlt : i < l0.length
    · obtain ⟨ad, A1, c1, e1, h0, h1, hl1, hi1⟩ := at_T25 HR0.out (i : Int) (by omega) (by omega)
      cases e1
      generalize hy : rd_T25 l0 (i : Int) = y at h0 h1 hl1 hi1
      have HY := Aside0.mk hy
      clear hy
      have HI1 := Aside0.mk (And.intro hl1 hi1)
      clear hl1 hi1
      replace h0 := (HB0.out.cell (World.block_lt_of_cell? w0 _ h0)).trans h0
      replace h1 := (HB0.out.cell (World.block_lt_of_cell? w0 _ h1)).trans h1
      replace h0 := (HB.out.cell (World.block_lt_of_cell? w _ h0)).trans h0
      replace h1 := (HB.out.cell (World.block_lt_of_cell? w _ h1)).trans h1
      simp only [Int.toNat_natCast] at h0 h1
      have BKb := Aside0.mk (blk_below Hbk.out HB.out)
      have GL4 := Aside0.mk (blk_lt BK4.out)
      have hcz4_0 := (blk_cell BK4.out 0)
      clear hcz4_0
      have HG2 : Aside0 (lastGo n (l0.drop (i + 1)) (if y.f0 ≤ n then (y, true) else (x, ok)) = r) := by
        have := HG.out
        rw [drop_rd l0 i hlt, HY.out, lastGo] at this
        exact ⟨this⟩
      clear HG
      by_cases hle : y.f0 ≤ n
      · have hd : decide (y.f0 ≤ n) = true := decide_eq_true hle
        have HG : Aside0 (lastGo n (l0.drop (i + 1)) (y, true) = r) := by have := HG2.out; rw [if_pos hle] at this; exact ⟨this⟩
        clear HG2
        go_wp2_with (first | ((with_reducible refine gate_dst (N := 7) rfl ?_); refine box_event ?hg (N := 7) ?hd (cs := #[.int .u64 0, .slice none 0 0]) (t := 25) ?hr ?_; (case hd => rfl); (case hg => rfl); (case hr => first | (go_simp; done) | (go_simp; rfl)); intro g7 hg w7 hbox hb; have n0_ := Aside0.mk (below_step (by repeat (first | (with_reducible first | exact HB.out | apply below_alloc | apply pw_below_drewN | apply below_drew1) | exact HB.out)) hb); have BK7 := Aside0.mk hbox; have GE7 := Aside0.mk ((by rw [hg]; exact (below_size (by repeat (first | (with_reducible first | exact HB.out | apply below_alloc | apply pw_below_drewN | apply below_drew1) | exact HB.out)))) : w.heap.size ≤ g7); have m0_ := Aside0.mk (blk_below (BK4.out) hb); have NE4_7 := Aside0.mk ((fun e_ => by have := blk_lt (BK4.out); omega) : g4 ≠ g7); have NE7_4 := Aside0.mk ((fun e_ => by have := blk_lt (BK4.out); omega) : g7 ≠ g4); have m1_ := Aside0.mk (blk_below (BKb.out) hb); have NEb_7 := Aside0.mk ((fun e_ => by have := blk_lt (BKb.out); omega) : gb ≠ g7); have NE7_b := Aside0.mk ((fun e_ => by have := blk_lt (BKb.out); omega) : g7 ≠ gb); clear HB; have HB := n0_; clear n0_; clear BK4; have BK4 := m0_; clear m0_; clear BKb; have BKb := m1_; clear m1_; clear hb hbox hg; have hc7_0 : w7.cell? ⟨g7, 0, none⟩ = some (.int .u64 0) := (blk_cell BK7.out 0).trans rfl; have hf7_0 := blk_frozen BK7.out 0; have hc7_1 : w7.cell? ⟨g7, 1, none⟩ = some (.slice none 0 0) := (blk_cell BK7.out 1).trans rfl; have hf7_1 := blk_frozen BK7.out 1) | (go_at_call 53; ((with_reducible refine (frag1_calls _ n A1 _ c1 gb _ ?hq).mono ?_); (case hq => exact (blk_far ((blk_far (BKb.out) NEb_7.out _)) NEb_7.out _)); rintro e w8 ⟨rfl, hb8⟩; have n0_ := Aside0.mk (below_step (below_set (below_set HB.out GE7.out) GE7.out) hb8); have m0_ : Aside0 (w8.heap[g7]? = some (.cells #[.int .u64 y.f0, .slice A1 y.f1.length c1] 25 (0, 0))) := Aside0.mk (blk_below (blk_put ((blk_put (BK7.out) 0 _ rfl)) 1 _ rfl) hb8); have m1_ : Aside0 (w8.heap[g4]? = some (.cells #[.int .u64 x.f0, .slice A x.f1.length c] 25 (0, 0))) := Aside0.mk (blk_below (blk_far ((blk_far (BK4.out) NE4_7.out _)) NE4_7.out _) hb8); clear HB hb8; have HB := n0_; clear n0_ ; clear BK7; have BK7 := m0_; clear m0_; clear BK4; have BK4 := m1_; clear m1_; have hc7_0 : w8.cell? ⟨g7, 0, none⟩ = some (.int .u64 y.f0) := (blk_cell BK7.out 0).trans rfl; have hf7_0 := blk_frozen BK7.out 0; have hc7_1 : w8.cell? ⟨g7, 1, none⟩ = some (.slice A1 y.f1.length c1) := (blk_cell BK7.out 1).trans rfl; have hf7_1 := blk_frozen BK7.out 1; have hc4_0 : w8.cell? ⟨g4, 0, none⟩ = some (.int .u64 x.f0) := (blk_cell BK4.out 0).trans rfl; have hf4_0 := blk_frozen BK4.out 0; have hc4_1 : w8.cell? ⟨g4, 1, none⟩ = some (.slice A x.f1.length c) := (blk_cell BK4.out 1).trans rfl; have hf4_1 := blk_frozen BK4.out 1)))
        go_roundg (l0.length - i - 1)
        case measure => have := HI.out; omega
        case rel => exact ⟨i + 1, y, true, A1, c1, rfl, by go_num, HG, ⟨by have := HI.out; omega⟩, ⟨(blk_put ((blk_put (BK4.out) 0 _ rfl)) 1 _ rfl)⟩, HI1, ⟨(below_set (below_set HB.out GE4.out) GE4.out)⟩⟩
      · have hd : decide (y.f0 ≤ n) = false := decide_eq_false hle
        have HG : Aside0 (lastGo n (l0.drop (i + 1)) (x, ok) = r) := by have := HG2.out; rw [if_neg hle] at this; exact ⟨this⟩
        clear HG2
        go_wp2_with (first | ((with_reducible refine gate_dst (N := 7) rfl ?_); refine box_event ?hg (N := 7) ?hd (cs := #[.int .u64 0, .slice none 0 0]) (t := 25) ?hr ?_; (case hd => rfl); (case hg => rfl); (case hr => first | (go_simp; done) | (go_simp; rfl)); intro g7 hg w7 hbox hb; have n0_ := Aside0.mk (below_step (by repeat (first | (with_reducible first | exact HB.out | apply below_alloc | apply pw_below_drewN | apply below_drew1) | exact HB.out)) hb); have BK7 := Aside0.mk hbox; have GE7 := Aside0.mk ((by rw [hg]; exact (below_size (by repeat (first | (with_reducible first | exact HB.out | apply below_alloc | apply pw_below_drewN | apply below_drew1) | exact HB.out)))) : w.heap.size ≤ g7); have m0_ := Aside0.mk (blk_below (BK4.out) hb); have NE4_7 := Aside0.mk ((fun e_ => by have := blk_lt (BK4.out); omega) : g4 ≠ g7); have NE7_4 := Aside0.mk ((fun e_ => by have := blk_lt (BK4.out); omega) : g7 ≠ g4); have m1_ := Aside0.mk (blk_below (BKb.out) hb); have NEb_7 := Aside0.mk ((fun e_ => by have := blk_lt (BKb.out); omega) : gb ≠ g7); have NE7_b := Aside0.mk ((fun e_ => by have := blk_lt (BKb.out); omega) : g7 ≠ gb); clear HB; have HB := n0_; clear n0_; clear BK4; have BK4 := m0_; clear m0_; clear BKb; have BKb := m1_; clear m1_; clear hb hbox hg; have hc7_0 : w7.cell? ⟨g7, 0, none⟩ = some (.int .u64 0) := (blk_cell BK7.out 0).trans rfl; have hf7_0 := blk_frozen BK7.out 0; have hc7_1 : w7.cell? ⟨g7, 1, none⟩ = some (.slice none 0 0) := (blk_cell BK7.out 1).trans rfl; have hf7_1 := blk_frozen BK7.out 1) | (go_at_call 53; ((with_reducible refine (frag1_calls _ n A1 _ c1 gb _ ?hq).mono ?_); (case hq => exact (blk_far ((blk_far (BKb.out) NEb_7.out _)) NEb_7.out _)); rintro e w8 ⟨rfl, hb8⟩; have n0_ := Aside0.mk (below_step (below_set (below_set HB.out GE7.out) GE7.out) hb8); have m0_ : Aside0 (w8.heap[g7]? = some (.cells #[.int .u64 y.f0, .slice A1 y.f1.length c1] 25 (0, 0))) := Aside0.mk (blk_below (blk_put ((blk_put (BK7.out) 0 _ rfl)) 1 _ rfl) hb8); have m1_ : Aside0 (w8.heap[g4]? = some (.cells #[.int .u64 x.f0, .slice A x.f1.length c] 25 (0, 0))) := Aside0.mk (blk_below (blk_far ((blk_far (BK4.out) NE4_7.out _)) NE4_7.out _) hb8); clear HB hb8; have HB := n0_; clear n0_ ; clear BK7; have BK7 := m0_; clear m0_; clear BK4; have BK4 := m1_; clear m1_; have hc7_0 : w8.cell? ⟨g7, 0, none⟩ = some (.int .u64 y.f0) := (blk_cell BK7.out 0).trans rfl; have hf7_0 := blk_frozen BK7.out 0; have hc7_1 : w8.cell? ⟨g7, 1, none⟩ = some (.slice A1 y.f1.length c1) := (blk_cell BK7.out 1).trans rfl; have hf7_1 := blk_frozen BK7.out 1; have hc4_0 : w8.cell? ⟨g4, 0, none⟩ = some (.int .u64 x.f0) := (blk_cell BK4.out 0).trans rfl; have hf4_0 := blk_frozen BK4.out 0; have hc4_1 : w8.cell? ⟨g4, 1, none⟩ = some (.slice A x.f1.length c) := (blk_cell BK4.out 1).trans rfl; have hf4_1 := blk_frozen BK4.out 1)))
        go_roundg (l0.length - i - 1)
        case measure => have := HI.out; omega
        case rel => exact ⟨i + 1, x, ok, A, c, rfl, by go_num, HG, ⟨by have := HI.out; omega⟩, ⟨BK4.out⟩, HC, HB⟩
    · have hend : (x, ok) = r := by have := HG.out; rwa [List.drop_eq_nil_of_le (by omega), lastGo] at this
      obtain rfl := hend
      have hge : decide ((i : Int) < (l0.length : Int)) = false := by simp; omega
      have hc4_0 : wr.cell? ⟨g4, 0, none⟩ = some (.int .u64 x.f0) := (blk_cell BK4.out 0).trans rfl; have hf4_0 := blk_frozen BK4.out 0; have hc4_1 : wr.cell? ⟨g4, 1, none⟩ = some (.slice A x.f1.length c) := (blk_cell BK4.out 1).trans rfl; have hf4_1 := blk_frozen BK4.out 1
      go_wp2
      refine bodyPost_ret (results_ct rfl _ _ g4 25 #[.int .u64 x.f0, .slice A x.f1.length c] (0, 0) _ rfl (blk_put ((blk_put (BK4.out) 0 _ rfl)) 1 _ rfl) Try.underlying25 rfl (by kernel_rfl)) rfl ?_
      exact ⟨A, c, rfl, HC.out.1, HC.out.2, (below_set (below_set HB.out GE4.out) GE4.out)⟩
set_option maxHeartbeats 8000000 in
set_option maxRecDepth 100000 in
theorem stripe_Frag.calls (A0 : Option Addr) (c0 : Nat) (l0 : List S25) (a1 : Int) (r1 : Int) (r2 : List S32) (r3 : Bool) (w : World) (hr0 : Kd.C k25 w A0 l0.length l0) (hc0 : l0.length ≤ c0) (h : stripe_Frag.f l0 a1 = some (r1, r2, r3)) :
    Calls Try.prog 35 #[.slice A0 l0.length c0, .int .u64 a1] w fun e w' => ∃ v1_ : Value, e = .returned (.tuple #[.agg #[.int .u64 r1, v1_], .bool r3]) ∧ Kd.R k32 32 w' w.heap.size (fun _ => True) v1_ r2 ∧ Below w.heap.size w w' := by
  have HB := Aside0.mk (Below.refl w.heap.size w)
  have HR0 := Aside0.mk hr0
  unfold stripe_Frag.f at h
  dsimp only at h
  have hlast := fun gb W (hb : W.heap[gb]? = some _) (hB : Below w.heap.size w W) => last_calls A0 c0 l0 a1 gb w W hB hr0 hb
  generalize lastGo a1 l0 (z25, false) = R at h hlast
  split at h
  · rename_i hl
    have LM := Aside0.mk hl
    simp only [Option.some.injEq, Prod.mk.injEq] at h
    obtain ⟨rfl, rfl, rfl⟩ := h
    have HLAST := Aside0.mk hlast
    clear hl hr0 hlast
    go_enter Try.func35, Try.ntmps35
    go_wp2_with (first | ((with_reducible refine gate_dst (N := 3) rfl ?_); (refine box_event ?hg (N := 3) ?hd (cs := #[.int .u64 a1]) (t := 22) ?hr ?_; (case hd => rfl); (case hg => rfl); (case hr => first | (go_simp; done) | (go_simp; rfl)); intro g3 hg w3 hbox hb; have z0_ := Aside0.mk (below_step HB.out hb); have z1_ := Aside0.mk (hbox); have z2_ := Aside0.mk (((by rw [hg]; exact (below_size HB.out)) : w.heap.size ≤ g3)); clear HB; have HB := z0_; clear z0_; have BK3 := z1_; clear z1_; have GE3 := z2_; clear z2_; clear hb hbox hg; have hc3_0 : w3.cell? ⟨g3, 0, none⟩ = some (.int .u64 a1) := (blk_cell BK3.out 0).trans rfl; have hf3_0 := blk_frozen BK3.out 0; skip)) | ((with_reducible refine gate_dst (N := 4) rfl ?_); (refine box_event ?hg (N := 4) ?hd (cs := #[.int .u64 0, .slice none 0 0]) (t := 25) ?hr ?_; (case hd => rfl); (case hg => rfl); (case hr => first | (go_simp; done) | (go_simp; rfl)); intro g4 hg w4 hbox hb; clear hc3_0 hf3_0; have z0_ := Aside0.mk (below_step HB.out hb); have z1_ := Aside0.mk (blk_below BK3.out hb); have z2_ := Aside0.mk (hbox); have z3_ := Aside0.mk (((by rw [hg]; exact (below_size HB.out)) : w.heap.size ≤ g4)); have z4_ := Aside0.mk (((fun e_ => by have := blk_lt BK3.out; omega) : g3 ≠ g4)); have z5_ := Aside0.mk (((fun e_ => by have := blk_lt BK3.out; omega) : g4 ≠ g3)); clear HB BK3; have HB := z0_; clear z0_; have BK3 := z1_; clear z1_; have BK4 := z2_; clear z2_; have GE4 := z3_; clear z3_; have NE3_4 := z4_; clear z4_; have NE4_3 := z5_; clear z5_; clear hb hbox hg; have hc3_0 : w4.cell? ⟨g3, 0, none⟩ = some (.int .u64 a1) := (blk_cell BK3.out 0).trans rfl; have hf3_0 := blk_frozen BK3.out 0; have hc4_0 : w4.cell? ⟨g4, 0, none⟩ = some (.int .u64 0) := (blk_cell BK4.out 0).trans rfl; have hf4_0 := blk_frozen BK4.out 0; have hc4_1 : w4.cell? ⟨g4, 1, none⟩ = some (.slice none 0 0) := (blk_cell BK4.out 1).trans rfl; have hf4_1 := blk_frozen BK4.out 1; skip)) | (go_at_call 52; ((with_reducible refine (HLAST.out g3 _ BK3.out HB.out).mono ?_); rintro e w5 ⟨A, c, rfl, hAc, hC, hb⟩; have HC := Aside0.mk hC; have HAC := Aside0.mk hAc; clear hAc hC; clear hc3_0 hf3_0 hc4_0 hf4_0 hc4_1 hf4_1; have z0_ := Aside0.mk (below_step HB.out hb); have z1_ := Aside0.mk (blk_below BK3.out hb); have z2_ := Aside0.mk (blk_below BK4.out hb); clear HB BK3 BK4; have HB := z0_; clear z0_; have BK3 := z1_; clear z1_; have BK4 := z2_; clear z2_; clear hb; have hc3_0 : w5.cell? ⟨g3, 0, none⟩ = some (.int .u64 a1) := (blk_cell BK3.out 0).trans rfl; have hf3_0 := blk_frozen BK3.out 0; have hc4_0 : w5.cell? ⟨g4, 0, none⟩ = some (.int .u64 0) := (blk_cell BK4.out 0).trans rfl; have hf4_0 := blk_frozen BK4.out 0; have hc4_1 : w5.cell? ⟨g4, 1, none⟩ = some (.slice none 0 0) := (blk_cell BK4.out 1).trans rfl; have hf4_1 := blk_frozen BK4.out 1; skip)) | ((with_reducible refine gate_dst (N := 6) rfl ?_); (refine box_event ?hg (N := 6) ?hd (cs := #[.int .u64 0, .slice none 0 0]) (t := 25) ?hr ?_; (case hd => rfl); (case hg => rfl); (case hr => first | (go_simp; done) | (go_simp; rfl)); intro g6 hg w6 hbox hb; clear hc3_0 hf3_0 hc4_0 hf4_0 hc4_1 hf4_1; have z0_ := Aside0.mk (below_step HB.out hb); have z1_ := Aside0.mk (blk_below BK3.out hb); have z2_ := Aside0.mk (blk_below BK4.out hb); have z3_ := Aside0.mk (hbox); have z4_ := Aside0.mk (((by rw [hg]; exact (below_size HB.out)) : w.heap.size ≤ g6)); have z5_ := Aside0.mk (((fun e_ => by have := blk_lt BK3.out; omega) : g3 ≠ g6)); have z6_ := Aside0.mk (((fun e_ => by have := blk_lt BK3.out; omega) : g6 ≠ g3)); have z7_ := Aside0.mk (((fun e_ => by have := blk_lt BK4.out; omega) : g4 ≠ g6)); have z8_ := Aside0.mk (((fun e_ => by have := blk_lt BK4.out; omega) : g6 ≠ g4)); clear HB BK3 BK4; have HB := z0_; clear z0_; have BK3 := z1_; clear z1_; have BK4 := z2_; clear z2_; have BK6 := z3_; clear z3_; have GE6 := z4_; clear z4_; have NE3_6 := z5_; clear z5_; have NE6_3 := z6_; clear z6_; have NE4_6 := z7_; clear z7_; have NE6_4 := z8_; clear z8_; clear hb hbox hg; have hc3_0 : w6.cell? ⟨g3, 0, none⟩ = some (.int .u64 a1) := (blk_cell BK3.out 0).trans rfl; have hf3_0 := blk_frozen BK3.out 0; have hc4_0 : w6.cell? ⟨g4, 0, none⟩ = some (.int .u64 0) := (blk_cell BK4.out 0).trans rfl; have hf4_0 := blk_frozen BK4.out 0; have hc4_1 : w6.cell? ⟨g4, 1, none⟩ = some (.slice none 0 0) := (blk_cell BK4.out 1).trans rfl; have hf4_1 := blk_frozen BK4.out 1; have hc6_0 : w6.cell? ⟨g6, 0, none⟩ = some (.int .u64 0) := (blk_cell BK6.out 0).trans rfl; have hf6_0 := blk_frozen BK6.out 0; have hc6_1 : w6.cell? ⟨g6, 1, none⟩ = some (.slice none 0 0) := (blk_cell BK6.out 1).trans rfl; have hf6_1 := blk_frozen BK6.out 1; skip)) | ((with_reducible refine gate_store (t := 25) (p := 6) rfl ?_); (refine store_event (t := 25) (p := 6) (v := ?vo_wa) (w1 := ((w6.setCell ⟨g6, 0, none⟩ (.int .u64 R.1.f0)).setCell ⟨g6, 1, none⟩ (.slice A R.1.f1.length c))) ?hg ?ho ?hn ?hr ?_; (case ho => rfl); (case hg => rfl); (case hn => rfl); (case hr => first | (go_simp; done) | (go_simp; rfl)); intro wa hw; clear hc3_0 hf3_0 hc4_0 hf4_0 hc4_1 hf4_1 hc6_0 hf6_0 hc6_1 hf6_1; have z0_ := Aside0.mk ((by rw [hw]; exact (below_set (below_set HB.out GE6.out) GE6.out) : Below w.heap.size w wa)); have z1_ := Aside0.mk ((by rw [hw]; exact (blk_far ((blk_far (BK3.out) NE3_6.out _)) NE3_6.out _) : wa.heap[g3]? = some (.cells #[.int .u64 a1] 22 (0, 0)))); have z2_ := Aside0.mk ((by rw [hw]; exact (blk_far ((blk_far (BK4.out) NE4_6.out _)) NE4_6.out _) : wa.heap[g4]? = some (.cells #[.int .u64 0, .slice none 0 0] 25 (0, 0)))); have z3_ := Aside0.mk ((by rw [hw]; exact (blk_put ((blk_put (BK6.out) 0 _ rfl)) 1 _ rfl) : wa.heap[g6]? = some (.cells #[.int .u64 R.1.f0, .slice A R.1.f1.length c] 25 (0, 0)))); clear HB BK3 BK4 BK6; have HB := z0_; clear z0_; have BK3 := z1_; clear z1_; have BK4 := z2_; clear z2_; have BK6 := z3_; clear z3_; clear hw; have hc3_0 : wa.cell? ⟨g3, 0, none⟩ = some (.int .u64 a1) := (blk_cell BK3.out 0).trans rfl; have hf3_0 := blk_frozen BK3.out 0; have hc4_0 : wa.cell? ⟨g4, 0, none⟩ = some (.int .u64 0) := (blk_cell BK4.out 0).trans rfl; have hf4_0 := blk_frozen BK4.out 0; have hc4_1 : wa.cell? ⟨g4, 1, none⟩ = some (.slice none 0 0) := (blk_cell BK4.out 1).trans rfl; have hf4_1 := blk_frozen BK4.out 1; have hc6_0 : wa.cell? ⟨g6, 0, none⟩ = some (.int .u64 R.1.f0) := (blk_cell BK6.out 0).trans rfl; have hf6_0 := blk_frozen BK6.out 0; have hc6_1 : wa.cell? ⟨g6, 1, none⟩ = some (.slice A R.1.f1.length c) := (blk_cell BK6.out 1).trans rfl; have hf6_1 := blk_frozen BK6.out 1; skip)) | (go_at_call 44; ((with_reducible refine (api_Place_44.calls A c R.1.f1 R.1.f1 _ (Kd.C_below HC.out HB.out) HAC.out (by unfold api_Place_44.f; rw [if_pos LM.out])).mono ?_); rintro e w7 ⟨v1, rfl, ho, hb⟩; obtain ⟨Av, cv, ev⟩ := Kd.R_slice ho; subst ev; clear hc3_0 hf3_0 hc4_0 hf4_0 hc4_1 hf4_1 hc6_0 hf6_0 hc6_1 hf6_1; have z0_ := Aside0.mk (below_step HB.out hb); have z1_ := Aside0.mk (blk_below BK3.out hb); have z2_ := Aside0.mk (blk_below BK4.out hb); have z3_ := Aside0.mk (blk_below BK6.out hb); have z4_ := Aside0.mk ((Kd.R_lower (Kd.R_mono (Kd.R_bound ho) (fun k_ hk => ⟨⟨⟨trivial, fun e_ => by have := hk.2.1; have := blk_lt BK3.out; omega⟩, fun e_ => by have := hk.2.1; have := blk_lt BK4.out; omega⟩, fun e_ => by have := hk.2.1; have := blk_lt BK6.out; omega⟩)) (below_size HB.out) : Kd.R k32 32 w7 w.heap.size (fun k_ : Nat => (((True) ∧ k_ ≠ g3) ∧ k_ ≠ g4) ∧ k_ ≠ g6) (.slice Av R.1.f1.length cv) (R.1.f1))); clear HB BK3 BK4 BK6; have HB := z0_; clear z0_; have BK3 := z1_; clear z1_; have BK4 := z2_; clear z2_; have BK6 := z3_; clear z3_; have HO := z4_; clear z4_; clear hb; clear ho; have hc3_0 : w7.cell? ⟨g3, 0, none⟩ = some (.int .u64 a1) := (blk_cell BK3.out 0).trans rfl; have hf3_0 := blk_frozen BK3.out 0; have hc4_0 : w7.cell? ⟨g4, 0, none⟩ = some (.int .u64 0) := (blk_cell BK4.out 0).trans rfl; have hf4_0 := blk_frozen BK4.out 0; have hc4_1 : w7.cell? ⟨g4, 1, none⟩ = some (.slice none 0 0) := (blk_cell BK4.out 1).trans rfl; have hf4_1 := blk_frozen BK4.out 1; have hc6_0 : w7.cell? ⟨g6, 0, none⟩ = some (.int .u64 R.1.f0) := (blk_cell BK6.out 0).trans rfl; have hf6_0 := blk_frozen BK6.out 0; have hc6_1 : w7.cell? ⟨g6, 1, none⟩ = some (.slice A R.1.f1.length c) := (blk_cell BK6.out 1).trans rfl; have hf6_1 := blk_frozen BK6.out 1; skip)) | ((with_reducible refine gate_store (t := 23) (p := 17) rfl ?_); (refine store_event (t := 23) (p := 17) (v := ?vo_wb) (w1 := (w7.setCell ⟨g6, 1, none⟩ (.slice Av R.1.f1.length cv))) ?hg ?ho ?hn ?hr ?_; (case ho => rfl); (case hg => rfl); (case hn => rfl); (case hr => first | (go_simp; done) | (go_simp; rfl)); intro wb hw; clear hc3_0 hf3_0 hc4_0 hf4_0 hc4_1 hf4_1 hc6_0 hf6_0 hc6_1 hf6_1; have z0_ := Aside0.mk ((by rw [hw]; exact (below_set HB.out GE6.out) : Below w.heap.size w wb)); have z1_ := Aside0.mk ((by rw [hw]; exact (blk_far (BK3.out) NE3_6.out _) : wb.heap[g3]? = some (.cells #[.int .u64 a1] 22 (0, 0)))); have z2_ := Aside0.mk ((by rw [hw]; exact (blk_far (BK4.out) NE4_6.out _) : wb.heap[g4]? = some (.cells #[.int .u64 0, .slice none 0 0] 25 (0, 0)))); have z3_ := Aside0.mk ((by rw [hw]; exact (blk_put (BK6.out) 1 _ rfl) : wb.heap[g6]? = some (.cells #[.int .u64 R.1.f0, .slice Av R.1.f1.length cv] 25 (0, 0)))); have z4_ := Aside0.mk ((by rw [hw]; exact Kd.R_mono (Kd.R_far (p := ⟨g6, 1, none⟩) HO.out (fun _ hk => hk.2) _) (fun _ hk => hk) : Kd.R k32 32 wb w.heap.size (fun k_ : Nat => (((True) ∧ k_ ≠ g3) ∧ k_ ≠ g4) ∧ k_ ≠ g6) (.slice Av R.1.f1.length cv) (R.1.f1))); clear HB BK3 BK4 BK6 HO; have HB := z0_; clear z0_; have BK3 := z1_; clear z1_; have BK4 := z2_; clear z2_; have BK6 := z3_; clear z3_; have HO := z4_; clear z4_; clear hw; have hc3_0 : wb.cell? ⟨g3, 0, none⟩ = some (.int .u64 a1) := (blk_cell BK3.out 0).trans rfl; have hf3_0 := blk_frozen BK3.out 0; have hc4_0 : wb.cell? ⟨g4, 0, none⟩ = some (.int .u64 0) := (blk_cell BK4.out 0).trans rfl; have hf4_0 := blk_frozen BK4.out 0; have hc4_1 : wb.cell? ⟨g4, 1, none⟩ = some (.slice none 0 0) := (blk_cell BK4.out 1).trans rfl; have hf4_1 := blk_frozen BK4.out 1; have hc6_0 : wb.cell? ⟨g6, 0, none⟩ = some (.int .u64 R.1.f0) := (blk_cell BK6.out 0).trans rfl; have hf6_0 := blk_frozen BK6.out 0; have hc6_1 : wb.cell? ⟨g6, 1, none⟩ = some (.slice Av R.1.f1.length cv) := (blk_cell BK6.out 1).trans rfl; have hf6_1 := blk_frozen BK6.out 1; skip)) | ((with_reducible refine gate_store (t := 25) (p := 4) rfl ?_); (refine store_event (t := 25) (p := 4) (v := ?vo_wc) (w1 := ((wb.setCell ⟨g4, 0, none⟩ (.int .u64 R.1.f0)).setCell ⟨g4, 1, none⟩ (.slice Av R.1.f1.length cv))) ?hg ?ho ?hn ?hr ?_; (case ho => rfl); (case hg => rfl); (case hn => rfl); (case hr => first | (go_simp; done) | (go_simp; rfl)); intro wc hw; clear hc3_0 hf3_0 hc4_0 hf4_0 hc4_1 hf4_1 hc6_0 hf6_0 hc6_1 hf6_1; have z0_ := Aside0.mk ((by rw [hw]; exact (below_set (below_set HB.out GE4.out) GE4.out) : Below w.heap.size w wc)); have z1_ := Aside0.mk ((by rw [hw]; exact (blk_far ((blk_far (BK3.out) NE3_4.out _)) NE3_4.out _) : wc.heap[g3]? = some (.cells #[.int .u64 a1] 22 (0, 0)))); have z2_ := Aside0.mk ((by rw [hw]; exact (blk_put ((blk_put (BK4.out) 0 _ rfl)) 1 _ rfl) : wc.heap[g4]? = some (.cells #[.int .u64 R.1.f0, .slice Av R.1.f1.length cv] 25 (0, 0)))); have z3_ := Aside0.mk ((by rw [hw]; exact (blk_far ((blk_far (BK6.out) NE6_4.out _)) NE6_4.out _) : wc.heap[g6]? = some (.cells #[.int .u64 R.1.f0, .slice Av R.1.f1.length cv] 25 (0, 0)))); have z4_ := Aside0.mk ((by rw [hw]; exact Kd.R_mono (Kd.R_far (p := ⟨g4, 1, none⟩) (Kd.R_far (p := ⟨g4, 0, none⟩) HO.out (fun _ hk => hk.1.2) _) (fun _ hk => hk.1.2) _) (fun _ hk => hk) : Kd.R k32 32 wc w.heap.size (fun k_ : Nat => (((True) ∧ k_ ≠ g3) ∧ k_ ≠ g4) ∧ k_ ≠ g6) (.slice Av R.1.f1.length cv) (R.1.f1))); clear HB BK3 BK4 BK6 HO; have HB := z0_; clear z0_; have BK3 := z1_; clear z1_; have BK4 := z2_; clear z2_; have BK6 := z3_; clear z3_; have HO := z4_; clear z4_; clear hw; have hc3_0 : wc.cell? ⟨g3, 0, none⟩ = some (.int .u64 a1) := (blk_cell BK3.out 0).trans rfl; have hf3_0 := blk_frozen BK3.out 0; have hc4_0 : wc.cell? ⟨g4, 0, none⟩ = some (.int .u64 R.1.f0) := (blk_cell BK4.out 0).trans rfl; have hf4_0 := blk_frozen BK4.out 0; have hc4_1 : wc.cell? ⟨g4, 1, none⟩ = some (.slice Av R.1.f1.length cv) := (blk_cell BK4.out 1).trans rfl; have hf4_1 := blk_frozen BK4.out 1; have hc6_0 : wc.cell? ⟨g6, 0, none⟩ = some (.int .u64 R.1.f0) := (blk_cell BK6.out 0).trans rfl; have hf6_0 := blk_frozen BK6.out 0; have hc6_1 : wc.cell? ⟨g6, 1, none⟩ = some (.slice Av R.1.f1.length cv) := (blk_cell BK6.out 1).trans rfl; have hf6_1 := blk_frozen BK6.out 1; skip)))
    refine bodyPost_ret (results_ct rfl _ _ g4 25 #[.int .u64 R.1.f0, .slice Av R.1.f1.length cv] (0, 0) _ rfl BK4.out Try.underlying25 rfl (by kernel_rfl)) rfl ?_
    exact ⟨_, rfl, (Kd.R_mono HO.out (fun _ _ => trivial)), HB.out⟩
  · exact absurd h (by simp)
end Go.Proofs.Ytipjnfljkknmgaa.Q
namespace Go.Proofs.Ytipjnfljkknmgaa.Q
open Go.RowKit Go.Proofs.YtipjnfljkknmgaaW.PrintWords Go.Proofs.YtipjnfljkknmgaaW.PrintLast Go.Proofs.YtipjnfljkknmgaaW.PrintMore
attribute [local go_sem] max2_int min2_int max_two min_two max_three min_three max_four min_four   -- for this text's walks alone
set_option linter.unusedVariables false
set_option linter.unusedSimpArgs false
def stripe_Set.f (k : Nat) (l0 : List (S25)) (a1 : Int) (a2 : Int) : Option ((List (S32))) := (stripe_Frag.f l0 a2).bind fun bt116 => (if bt116.2.2 = true then (if a1 < 1 then (some ([] : List (S32))) else (if a1 > (bt116.2.1.length : Int) then (some ([] : List (S32))) else (if (IntKind.u64.wrap ((bt116.2.1.length : Int))) = 0 then (none) else ((api_Place_36.f k bt116.2.1 (wrap64 (Int.tmod (IntKind.u64.wrap (a2 - bt116.1)) (IntKind.u64.wrap ((bt116.2.1.length : Int))))) a1).bind fun t122 => (some t122))))) else (some ([] : List (S32))))
def stripe_Set.T5 : Bool × List (List Nat × List Nat) := (true, [([], []), ([0], [0]), ([], []), ([], []), ([3], [3]), ([2, 4], [2, 4]), ([], []), ([6], [6]), ([5, 7], [5, 7]), ([8], [8]), ([], []), ([1, 9, 10], [1, 9, 10]), ([11, 11, 0, 1, 2, 3, 4, 5, 6, 7, 8, 9, 10, 11], [11])])
def stripe_Set.B5 : List Nat := [0, 1, 0, 0, 8, 28, 0, 64, 252, 508, 0, 2047, 4095]
theorem stripe_Set.tab5 : rtab .any (opsOf Try.f13 5) = stripe_Set.T5 := by kernel_rfl
theorem stripe_Set.bits5 : waitsOk stripe_Set.T5.2 stripe_Set.B5 = true := by kernel_rfl
set_option maxHeartbeats 8000000 in
set_option maxRecDepth 100000 in
theorem stripe_Set.calls (k : Nat) (A0 : Option Addr) (c0 : Nat) (l0 : List (S25)) (a1 : Int) (a2 : Int) (r : List (S32)) (w : World) (hr0 : Kd.C k25 w A0 l0.length l0) (hc0 : l0.length ≤ c0) (h : stripe_Set.f k l0 a1 a2 = some r) :
    Calls Try.prog 13 #[.slice A0 l0.length c0, .int .i64 a1, .int .u64 a2] w fun e w' => ∃ v0_ : Value, e = .returned (v0_) ∧ Kd.R k32 32 w' w.heap.size (fun _ => True) v0_ r ∧ Below w.heap.size w w' := by
  have hu25 := Try.underlying25
  have HR0 := Aside0.mk hr0
  have HC0 := Aside0.mk hc0
  clear hr0 hc0
  have HB := Aside0.mk (Below.refl w.heap.size w)
  have H : ((stripe_Frag.f l0 a2).bind fun bt116 => (if bt116.2.2 = true then (if a1 < 1 then (some ([] : List (S32))) else (if a1 > (bt116.2.1.length : Int) then (some ([] : List (S32))) else (if (IntKind.u64.wrap ((bt116.2.1.length : Int))) = 0 then (none) else ((api_Place_36.f k bt116.2.1 (wrap64 (Int.tmod (IntKind.u64.wrap (a2 - bt116.1)) (IntKind.u64.wrap ((bt116.2.1.length : Int))))) a1).bind fun t122 => (some t122))))) else (some ([] : List (S32))))) = some r := h
  clear h
  replace H := Option.bind_eq_some_iff.mp H
  obtain ⟨⟨t116, t117, t120⟩, A40, H⟩ := H
  replace H : (if t120 = true then (if a1 < 1 then (some ([] : List (S32))) else (if a1 > (t117.length : Int) then (some ([] : List (S32))) else (if (IntKind.u64.wrap ((t117.length : Int))) = 0 then (none) else ((api_Place_36.f k t117 (wrap64 (Int.tmod (IntKind.u64.wrap (a2 - t116)) (IntKind.u64.wrap ((t117.length : Int))))) a1).bind fun t122 => (some t122))))) else (some ([] : List (S32)))) = some r := H
  have A4 := Aside0.mk A40
  clear A40
  by_cases c5 : t120 = true
  · subst c5
    rw [if_pos rfl] at H
    by_cases c6 : a1 < 1
    · rw [if_pos c6] at H
      have c6b0 : decide (a1 < 1) = true := decide_eq_true c6
      clear c6
      obtain rfl := Option.some.inj H
      go_enter Try.func13, Try.ntmps13
      go_wp2_with (first | ((with_reducible refine gate_callee (f := 35) rfl ?_); refine goesL_ (some 13) rfl rfl Try.func35 (by kernel_rfl) rfl #[.slice A0 l0.length c0, .int .u64 a2] rfl (by (try simp only [List.map_toArray, List.map_cons, List.map_nil]); first | done | rfl | (simp only [List.length_drop, List.length_take]; rfl)) ?_; (with_reducible refine (stripe_Frag.calls _ _ l0 a2 t116 t117 true _ ?side1 ?side2 A4.out).mono ?_); (case side1 => repeat (first | exact HR0.out | (with_reducible refine Kd.C_alloc ?_ _) | (with_reducible refine Kd.C_drewN ?_ _) | (with_reducible refine Kd.C_drew ?_))); (case side2 => exact HC0.out); rintro e w7 ⟨v118, rfl, ho0, hb⟩; refine ⟨_, rfl, ?_⟩; have n0_ := Aside0.mk (Kd.R_lower ho0 (below_size (Hb HB.out))); have n1_ := Aside0.mk (below_step (Hb HB.out) hb); clear HB; have HO119 := n0_; have HB := n1_; clear n0_ n1_; (try clear hb); (try clear hb2); (try clear hk); (try clear hi); (try clear ho0)) | ((with_reducible refine gate_dst (N := 7) rfl ?_); refine box_event ?hg (N := 7) ?hd (cs := #[.int .u64 0, .slice none 0 0]) (t := 25) ?hr ?_; (case hd => rfl); (case hg => rfl); (case hr => first | (go_simp; done) | (go_simp; rfl)); intro gb121 hg w8 hbox hb; have n0_ := Aside0.mk (Kd.R_below (Rb HO119.out) hb); have n1_ := Aside0.mk (below_step (Hb HB.out) hb); have n2_ := Aside0.mk (hbox); have n3_ := Aside0.mk ((by rw [hg]; exact (below_size (Hb HB.out)) : w.heap.size ≤ gb121)); have n4_ := Aside0.mk ((by rw [hg]; exact (below_size (Hb HB.out)) : w.heap.size ≤ gb121)); clear HO119; clear HB; have HO119 := n0_; have HB := n1_; have BK121 := n2_; have GW121 := n3_; have GE121 := n4_; clear n0_ n1_ n2_ n3_ n4_; clear hb hbox hg; have hcz9_0 : w8.cell? ⟨gb121, 0, none⟩ = some (.int .u64 0) := (blk_cell BK121.out 0).trans rfl; have hcz9_1 : w8.cell? ⟨gb121, 1, none⟩ = some (.slice none 0 0) := (blk_cell BK121.out 1).trans rfl; have hfz9_0 := blk_frozen BK121.out 0; have hfz9_1 := blk_frozen BK121.out 1; obtain ⟨Ao10, co10, eo10⟩ := Kd.R_slice HO119.out; subst eo10))
      go_ret
      exact ⟨_, by first | rfl | (simp [errW_none, errW_some] <;> rfl) | (simp [*, errW_none, errW_some] <;> rfl), by first | exact Kd.R_nil _ _ _ _ _ | exact Kd.N_nil _ _ _ _ _ | exact Kd.V_nil _ _ _ _ _ | exact Kd.Q_nil _ _ _ _ _ | exact Kd.S_nil _ _ _ _ _, by repeat (first | (with_reducible first | exact HB.out | apply below_alloc | apply pw_below_drewN | apply below_drew1 | refine below_set ?_ GE121.out) | exact HB.out)⟩
    · rw [if_neg c6] at H
      have c6b0 : decide (a1 < 1) = false := decide_eq_false c6
      clear c6
      by_cases c11 : a1 > (t117.length : Int)
      · rw [if_pos c11] at H
        have c11b0 : decide ((t117.length : Int) < a1) = true := decide_eq_true c11
        clear c11
        obtain rfl := Option.some.inj H
        go_enter Try.func13, Try.ntmps13
        go_wp2_with (first | ((with_reducible refine gate_callee (f := 35) rfl ?_); refine goesL_ (some 13) rfl rfl Try.func35 (by kernel_rfl) rfl #[.slice A0 l0.length c0, .int .u64 a2] rfl (by (try simp only [List.map_toArray, List.map_cons, List.map_nil]); first | done | rfl | (simp only [List.length_drop, List.length_take]; rfl)) ?_; (with_reducible refine (stripe_Frag.calls _ _ l0 a2 t116 t117 true _ ?side1 ?side2 A4.out).mono ?_); (case side1 => repeat (first | exact HR0.out | (with_reducible refine Kd.C_alloc ?_ _) | (with_reducible refine Kd.C_drewN ?_ _) | (with_reducible refine Kd.C_drew ?_))); (case side2 => exact HC0.out); rintro e w12 ⟨v118, rfl, ho0, hb⟩; refine ⟨_, rfl, ?_⟩; have n0_ := Aside0.mk (Kd.R_lower ho0 (below_size (Hb HB.out))); have n1_ := Aside0.mk (below_step (Hb HB.out) hb); clear HB; have HO119 := n0_; have HB := n1_; clear n0_ n1_; (try clear hb); (try clear hb2); (try clear hk); (try clear hi); (try clear ho0)) | ((with_reducible refine gate_dst (N := 7) rfl ?_); refine box_event ?hg (N := 7) ?hd (cs := #[.int .u64 0, .slice none 0 0]) (t := 25) ?hr ?_; (case hd => rfl); (case hg => rfl); (case hr => first | (go_simp; done) | (go_simp; rfl)); intro gb121 hg w13 hbox hb; have n0_ := Aside0.mk (Kd.R_below (Rb HO119.out) hb); have n1_ := Aside0.mk (below_step (Hb HB.out) hb); have n2_ := Aside0.mk (hbox); have n3_ := Aside0.mk ((by rw [hg]; exact (below_size (Hb HB.out)) : w.heap.size ≤ gb121)); have n4_ := Aside0.mk ((by rw [hg]; exact (below_size (Hb HB.out)) : w.heap.size ≤ gb121)); clear HO119; clear HB; have HO119 := n0_; have HB := n1_; have BK121 := n2_; have GW121 := n3_; have GE121 := n4_; clear n0_ n1_ n2_ n3_ n4_; clear hb hbox hg; have hcz14_0 : w13.cell? ⟨gb121, 0, none⟩ = some (.int .u64 0) := (blk_cell BK121.out 0).trans rfl; have hcz14_1 : w13.cell? ⟨gb121, 1, none⟩ = some (.slice none 0 0) := (blk_cell BK121.out 1).trans rfl; have hfz14_0 := blk_frozen BK121.out 0; have hfz14_1 := blk_frozen BK121.out 1; obtain ⟨Ao15, co15, eo15⟩ := Kd.R_slice HO119.out; subst eo15))
        go_ret
        exact ⟨_, by first | rfl | (simp [errW_none, errW_some] <;> rfl) | (simp [*, errW_none, errW_some] <;> rfl), by first | exact Kd.R_nil _ _ _ _ _ | exact Kd.N_nil _ _ _ _ _ | exact Kd.V_nil _ _ _ _ _ | exact Kd.Q_nil _ _ _ _ _ | exact Kd.S_nil _ _ _ _ _, by repeat (first | (with_reducible first | exact HB.out | apply below_alloc | apply pw_below_drewN | apply below_drew1 | refine below_set ?_ GE121.out) | exact HB.out)⟩
      · rw [if_neg c11] at H
        have c11b0 : decide ((t117.length : Int) < a1) = false := decide_eq_false c11
        clear c11
        by_cases c16 : (IntKind.u64.wrap ((t117.length : Int))) = 0
        · rw [if_pos c16] at H
          exact absurd H (by simp)
        · rw [if_neg c16] at H
          have c16b0 : ((IntKind.u64.wrap ((t117.length : Int))) == 0) = false := beq_eq_false_iff_ne.mpr c16
          have c16b1 : ((IntKind.u64.wrap ((t117.length : Int))) != 0) = true := bne_iff_ne.mpr c16
          replace H := Option.bind_eq_some_iff.mp H
          obtain ⟨t122, A170, H⟩ := H
          replace H : (some t122) = some r := H
          have A17 := Aside0.mk A170
          clear A170
          obtain rfl := Option.some.inj H
          go_enter Try.func13, Try.ntmps13
          try go_wp2_with (first | ((with_reducible refine gate_callee (f := 35) rfl ?_); refine goesL_ (some 13) rfl rfl Try.func35 (by kernel_rfl) rfl #[.slice A0 l0.length c0, .int .u64 a2] rfl (by (try simp only [List.map_toArray, List.map_cons, List.map_nil]); first | done | rfl | (simp only [List.length_drop, List.length_take]; rfl)) ?_; (with_reducible refine (stripe_Frag.calls _ _ l0 a2 t116 t117 true _ ?side1 ?side2 A4.out).mono ?_); (case side1 => repeat (first | exact HR0.out | (with_reducible refine Kd.C_alloc ?_ _) | (with_reducible refine Kd.C_drewN ?_ _) | (with_reducible refine Kd.C_drew ?_))); (case side2 => exact HC0.out); rintro e w18 ⟨v118, rfl, ho0, hb⟩; refine ⟨_, rfl, ?_⟩; have n0_ := Aside0.mk (Kd.R_lower ho0 (below_size (Hb HB.out))); have n1_ := Aside0.mk (below_step (Hb HB.out) hb); clear HB; have HO119 := n0_; have HB := n1_; clear n0_ n1_; (try clear hb); (try clear hb2); (try clear hk); (try clear hi); (try clear ho0)) | ((with_reducible refine gate_dst (N := 7) rfl ?_); refine box_event ?hg (N := 7) ?hd (cs := #[.int .u64 0, .slice none 0 0]) (t := 25) ?hr ?_; (case hd => rfl); (case hg => rfl); (case hr => first | (go_simp; done) | (go_simp; rfl)); intro gb121 hg w19 hbox hb; have n0_ := Aside0.mk (Kd.R_below (Rb HO119.out) hb); have n1_ := Aside0.mk (below_step (Hb HB.out) hb); have n2_ := Aside0.mk (hbox); have n3_ := Aside0.mk ((by rw [hg]; exact (below_size (Hb HB.out)) : w.heap.size ≤ gb121)); have n4_ := Aside0.mk ((by rw [hg]; exact (below_size (Hb HB.out)) : w.heap.size ≤ gb121)); clear HO119; clear HB; have HO119 := n0_; have HB := n1_; have BK121 := n2_; have GW121 := n3_; have GE121 := n4_; clear n0_ n1_ n2_ n3_ n4_; clear hb hbox hg; have hcz20_0 : w19.cell? ⟨gb121, 0, none⟩ = some (.int .u64 0) := (blk_cell BK121.out 0).trans rfl; have hcz20_1 : w19.cell? ⟨gb121, 1, none⟩ = some (.slice none 0 0) := (blk_cell BK121.out 1).trans rfl; have hfz20_0 := blk_frozen BK121.out 0; have hfz20_1 := blk_frozen BK121.out 1; obtain ⟨Ao21, co21, eo21⟩ := Kd.R_slice HO119.out; subst eo21))
          have n0_ : Aside0 (Kd.R k32 32 ((w19.setCell ⟨gb121, 0, none⟩ (.int .u64 t116)).setCell ⟨gb121, 1, none⟩ (.slice Ao21 t117.length co21)) w.heap.size (fun _ => True) (.slice Ao21 t117.length co21) t117) := ⟨by (with_reducible repeat (first | apply Kd.R_alloc | apply Kd.R_drewN | apply Kd.R_drew)); exact Kd.R_mono (Kd.R_far (p := ⟨gb121, 1, none⟩) (Kd.R_far (p := ⟨gb121, 0, none⟩) (Kd.R_types HO119.out BK121.out (by decide)) (fun _ hk => hk.2) (.int .u64 t116)) (fun _ hk => hk.2) (.slice Ao21 t117.length co21)) (fun _ hk => trivial)⟩
          have n1_ : Aside0 (((w19.setCell ⟨gb121, 0, none⟩ (.int .u64 t116)).setCell ⟨gb121, 1, none⟩ (.slice Ao21 t117.length co21)).heap[gb121]? = some (.cells #[.int .u64 t116, .slice Ao21 t117.length co21] 25 (0, 0))) := ⟨by (with_reducible repeat (first | refine blk_drewN ?_ _ | refine blk_drew ?_ | refine blk_alloc ?_ _)); refine blk_put (cs := #[.int .u64 t116, .slice none 0 0]) ?_ 1 _ rfl; (with_reducible repeat (first | refine blk_drewN ?_ _ | refine blk_drew ?_ | refine blk_alloc ?_ _)); refine blk_put (cs := #[.int .u64 0, .slice none 0 0]) ?_ 0 _ rfl; (with_reducible repeat (first | refine blk_drewN ?_ _ | refine blk_drew ?_ | refine blk_alloc ?_ _)); exact BK121.out⟩
          have n2_ : Aside0 (Below w.heap.size w ((w19.setCell ⟨gb121, 0, none⟩ (.int .u64 t116)).setCell ⟨gb121, 1, none⟩ (.slice Ao21 t117.length co21))) := ⟨by repeat (first | (with_reducible first | exact HB.out | apply below_alloc | apply pw_below_drewN | apply below_drew1 | refine below_set ?_ GE121.out) | exact HB.out)⟩
          (try clear HO119)
          (try clear BK121)
          (try clear HB)
          generalize ((w19.setCell ⟨gb121, 0, none⟩ (.int .u64 t116)).setCell ⟨gb121, 1, none⟩ (.slice Ao21 t117.length co21)) = w22 at n0_ n1_ n2_ ⊢
          have HO119 := n0_
          have BK121 := n1_
          have HB := n2_
          clear n0_ n1_ n2_
          have n0_ := Aside0.mk (Kd.R_drew HO119.out)
          have n1_ := Aside0.mk (blk_drew BK121.out)
          have n2_ := Aside0.mk (below_drew1 HB.out)
          clear HO119
          clear BK121
          clear HB
          have HO119 := n0_
          have BK121 := n1_
          have HB := n2_
          clear n0_ n1_ n2_
          refine start_ (n := 13) (S := fun w' => w'.cell? ⟨gb121, 0, none⟩ = some (.int .u64 t116) ∧ w'.cell? ⟨gb121, 1, none⟩ = some (.slice Ao21 t117.length co21)) (ds := []) #[false, false, false, false, false, false, false, false, false, false, false, false, false] (by kernel_rfl) rfl rfl ⟨(blk_cell BK121.out 0).trans rfl, (blk_cell BK121.out 1).trans rfl⟩ (fun hHeld => ?_); refine with_tabW stripe_Set.tab5 stripe_Set.bits5 (fun HT_ HW_ => ?_)
          generalize w22.drew = w23 at HO119 BK121 HB hHeld ⊢
          refine pure_ (i := 0) (N := some 30) (v := ?_) (a' := ?_) #[true, false, false, false, false, false, false, false, false, false, false, false, false] rfl rfl (any_of HT_.out (by kernel_rfl)) (fun _ _ _ h => h) (Or.inl ⟨by rfl, ?_⟩) ?_ ?_
          rotate_left
          · intro w'
            go_simp
            with_reducible rfl
          rotate_left
          · simp only [Act.put, List.setIfInBounds_toArray, List.set_cons_zero, List.set_cons_succ, i64_w, i32_w]
            rfl
          refine pure_ (i := 2) (N := some 32) (v := ?_) (a' := ?_) #[true, false, true, false, false, false, false, false, false, false, false, false, false] rfl rfl (any_of HT_.out (by kernel_rfl)) (fun _ _ _ h => h) (Or.inl ⟨by rfl, ?_⟩) ?_ ?_
          rotate_left
          · intro w'
            go_simp
            with_reducible rfl
          rotate_left
          · simp only [Act.put, List.setIfInBounds_toArray, List.set_cons_zero, List.set_cons_succ, i64_w, i32_w]
            rfl
          refine pure_ (i := 3) (N := some 33) (v := ?_) (a' := ?_) #[true, false, true, true, false, false, false, false, false, false, false, false, false] rfl rfl (any_of HT_.out (by kernel_rfl)) (fun _ _ _ h => h) (Or.inl ⟨by rfl, ?_⟩) ?_ ?_
          rotate_left
          · intro w'
            go_simp
            with_reducible rfl
          rotate_left
          · simp only [Act.put, List.setIfInBounds_toArray, List.set_cons_zero, List.set_cons_succ, i64_w, i32_w]
            rfl
          refine pure_ (i := 6) (N := some 36) (v := ?_) (a' := ?_) #[true, false, true, true, false, false, true, false, false, false, false, false, false] rfl rfl (any_of HT_.out (by kernel_rfl)) (fun _ _ _ h => h) (Or.inl ⟨by rfl, ?_⟩) ?_ ?_
          rotate_left
          · intro w'
            go_simp
            with_reducible rfl
          rotate_left
          · simp only [Act.put, List.setIfInBounds_toArray, List.set_cons_zero, List.set_cons_succ, i64_w, i32_w]
            rfl
          refine pure_ (i := 7) (N := some 37) (v := ?_) (a' := ?_) #[true, false, true, true, false, false, true, true, false, false, false, false, false] rfl rfl (any_of HT_.out (by kernel_rfl)) (fun _ _ _ h => h) (Or.inl ⟨by rfl, ?_⟩) ?_ ?_
          rotate_left
          · intro w'
            go_simp
            with_reducible rfl
          rotate_left
          · simp only [Act.put, List.setIfInBounds_toArray, List.set_cons_zero, List.set_cons_succ, i64_w, i32_w]
            rfl
          refine pure_ (i := 10) (N := some 40) (v := ?_) (a' := ?_) #[true, false, true, true, false, false, true, true, false, false, true, false, false] rfl rfl (any_of HT_.out (by kernel_rfl)) (fun _ _ _ h => h) (Or.inl ⟨by rfl, ?_⟩) ?_ ?_
          rotate_left
          · intro w'
            go_simp
            with_reducible rfl
          rotate_left
          · simp only [Act.put, List.setIfInBounds_toArray, List.set_cons_zero, List.set_cons_succ, i64_w, i32_w]
            rfl
          refine take_ (i := 1) (N := some 31) (v := ?_) (a' := ?_) #[true, true, true, true, false, false, true, true, false, false, true, false, false] rfl rfl (take_ofW HT_.out HW_.out (by kernel_rfl)) (fun _ _ _ h => h) (Or.inl ⟨by rfl, ?_⟩) hHeld ?_ ?_
          rotate_left
          · rintro w' ⟨s0, s1⟩
            go_simp
            with_reducible rfl
          rotate_left
          · simp only [Act.put, List.setIfInBounds_toArray, List.set_cons_zero, List.set_cons_succ, i64_w, i32_w]
            rfl
          refine take_ (i := 4) (N := some 34) (v := ?_) (a' := ?_) #[true, true, true, true, true, false, true, true, false, false, true, false, false] rfl rfl (take_ofW HT_.out HW_.out (by kernel_rfl)) (fun _ _ _ h => h) (Or.inl ⟨by rfl, ?_⟩) hHeld ?_ ?_
          rotate_left
          · rintro w' ⟨s0, s1⟩
            go_simp
            with_reducible rfl
          rotate_left
          · simp only [Act.put, List.setIfInBounds_toArray, List.set_cons_zero, List.set_cons_succ, i64_w, i32_w]
            rfl
          refine pure_ (i := 5) (N := some 35) (v := ?_) (a' := ?_) #[true, true, true, true, true, true, true, true, false, false, true, false, false] rfl rfl (any_of HT_.out (by kernel_rfl)) (fun _ _ _ h => h) (Or.inl ⟨by rfl, ?_⟩) ?_ ?_
          rotate_left
          · intro w'
            go_simp
            with_reducible rfl
          rotate_left
          · simp only [Act.put, List.setIfInBounds_toArray, List.set_cons_zero, List.set_cons_succ, i64_w, i32_w]
            rfl
          refine pure_ (i := 8) (N := some 38) (v := ?_) (a' := ?_) #[true, true, true, true, true, true, true, true, true, false, true, false, false] rfl rfl (any_of HT_.out (by kernel_rfl)) (fun _ _ _ h => h) (Or.inl ⟨by rfl, ?_⟩) ?_ ?_
          rotate_left
          · intro w'
            go_simp
            with_reducible rfl
          rotate_left
          · simp only [Act.put, List.setIfInBounds_toArray, List.set_cons_zero, List.set_cons_succ, i64_w, i32_w]
            rfl
          refine pure_ (i := 9) (N := some 39) (v := ?_) (a' := ?_) #[true, true, true, true, true, true, true, true, true, true, true, false, false] rfl rfl (any_of HT_.out (by kernel_rfl)) (fun _ _ _ h => h) (Or.inl ⟨by rfl, ?_⟩) ?_ ?_
          rotate_left
          · intro w'
            go_simp
            with_reducible rfl
          rotate_left
          · simp only [Act.put, List.setIfInBounds_toArray, List.set_cons_zero, List.set_cons_succ, i64_w, i32_w]
            rfl
          refine one_ (i := 11) (N := some 41) #[true, true, true, true, true, true, true, true, true, true, true, true, false] rfl rfl (one_of HT_.out (by kernel_rfl)) (by decide) (fun K hK => ?_)
          refine goes_ Try.func36 (by kernel_rfl) rfl #[.slice Ao21 t117.length co21, .int .i64 (wrap64 (Int.tmod (IntKind.u64.wrap (a2 - t116)) (IntKind.u64.wrap ((t117.length : Int))))), .int .i64 a1] (by rfl) rfl rfl (by (try simp only [List.map_toArray, List.map_cons, List.map_nil]); first | done | rfl | (simp only [List.length_drop, List.length_take]; rfl)) ?_
          with_reducible refine (api_Place_36.calls k _ _ t117 (wrap64 (Int.tmod (IntKind.u64.wrap (a2 - t116)) (IntKind.u64.wrap ((t117.length : Int))))) a1 t122 _ ?side1 ?side2 A17.out).mono ?_
          (case side1 => exact Cb (Kd.R_reads' HO119.out).2.2)
          (case side2 => exact (Kd.R_reads' HO119.out).2.1)
          rintro e w24 ⟨v123, rfl, ho0, hb⟩
          refine ⟨_, rfl, ?_⟩
          have n0_ := Aside0.mk (Kd.R_elder' (Rb HO119.out) (Kd.R_base ho0) hb)
          have n1_ := Aside0.mk (Kd.R_lower (Kd.R_new' ho0 (Kd.R_lt (Rb HO119.out))) (below_size (Hb HB.out)))
          have n2_ := Aside0.mk (blk_below (Bb BK121.out) hb)
          have n3_ := Aside0.mk (below_step (Hb HB.out) hb)
          clear HO119
          clear BK121
          clear HB
          have HO119 := n0_
          have HO124 := n1_
          have BK121 := n2_
          have HB := n3_
          clear n0_ n1_ n2_ n3_
          (try clear hb)
          (try clear hb2)
          (try clear hk)
          (try clear hi)
          (try clear ho0)
          refine hK.out _ _ ⟨(blk_cell BK121.out 0).trans rfl, (blk_cell BK121.out 1).trans rfl⟩ (fun hHeld => ?_)
          clear hK K
          refine norm_ (a' := ?_) ?_ ?_
          rotate_left
          · show Act.put _ (some 41) _ = _
            simp only [Act.put, List.setIfInBounds_toArray, List.set_cons_zero, List.set_cons_succ, i64_w, i32_w]
            rfl
          refine pure_ (i := 12) (N := some 6) (v := ?_) (a' := ?_) #[true, true, true, true, true, true, true, true, true, true, true, true, true] rfl rfl (any_of HT_.out (by kernel_rfl)) (fun _ _ _ h => h) (Or.inl ⟨by rfl, ?_⟩) ?_ ?_
          rotate_left
          · intro w'
            go_simp
            with_reducible rfl
          rotate_left
          · simp only [Act.put, List.setIfInBounds_toArray, List.set_cons_zero, List.set_cons_succ, i64_w, i32_w]
            rfl
          refine done_ (done_of HT_.out (by kernel_rfl)) ?_
          try go_wp2
          go_ret
          exact ⟨_, by first | rfl | (simp [errW_none, errW_some] <;> rfl) | (simp [*, errW_none, errW_some] <;> rfl), by (with_reducible repeat (first | apply Kd.R_alloc | apply Kd.R_drewN | apply Kd.R_drew)); exact Kd.R_mono HO124.out (fun _ hk => trivial), by repeat (first | (with_reducible first | exact HB.out | apply below_alloc | apply pw_below_drewN | apply below_drew1 | refine below_set ?_ GE121.out) | exact HB.out)⟩
  · replace c5 := Bool.eq_false_iff.mpr c5
    subst c5
    rw [if_neg (show ¬ (false = true) by decide)] at H
    obtain rfl := Option.some.inj H
    go_enter Try.func13, Try.ntmps13
    go_wp2_with (first | ((with_reducible refine gate_callee (f := 35) rfl ?_); refine goesL_ (some 13) rfl rfl Try.func35 (by kernel_rfl) rfl #[.slice A0 l0.length c0, .int .u64 a2] rfl (by (try simp only [List.map_toArray, List.map_cons, List.map_nil]); first | done | rfl | (simp only [List.length_drop, List.length_take]; rfl)) ?_; (with_reducible refine (stripe_Frag.calls _ _ l0 a2 t116 t117 false _ ?side1 ?side2 A4.out).mono ?_); (case side1 => repeat (first | exact HR0.out | (with_reducible refine Kd.C_alloc ?_ _) | (with_reducible refine Kd.C_drewN ?_ _) | (with_reducible refine Kd.C_drew ?_))); (case side2 => exact HC0.out); rintro e w25 ⟨v118, rfl, ho0, hb⟩; refine ⟨_, rfl, ?_⟩; have n0_ := Aside0.mk (Kd.R_lower ho0 (below_size (Hb HB.out))); have n1_ := Aside0.mk (below_step (Hb HB.out) hb); clear HB; have HO119 := n0_; have HB := n1_; clear n0_ n1_; (try clear hb); (try clear hb2); (try clear hk); (try clear hi); (try clear ho0)) | ((with_reducible refine gate_dst (N := 7) rfl ?_); refine box_event ?hg (N := 7) ?hd (cs := #[.int .u64 0, .slice none 0 0]) (t := 25) ?hr ?_; (case hd => rfl); (case hg => rfl); (case hr => first | (go_simp; done) | (go_simp; rfl)); intro gb121 hg w26 hbox hb; have n0_ := Aside0.mk (Kd.R_below (Rb HO119.out) hb); have n1_ := Aside0.mk (below_step (Hb HB.out) hb); have n2_ := Aside0.mk (hbox); have n3_ := Aside0.mk ((by rw [hg]; exact (below_size (Hb HB.out)) : w.heap.size ≤ gb121)); have n4_ := Aside0.mk ((by rw [hg]; exact (below_size (Hb HB.out)) : w.heap.size ≤ gb121)); clear HO119; clear HB; have HO119 := n0_; have HB := n1_; have BK121 := n2_; have GW121 := n3_; have GE121 := n4_; clear n0_ n1_ n2_ n3_ n4_; clear hb hbox hg; have hcz27_0 : w26.cell? ⟨gb121, 0, none⟩ = some (.int .u64 0) := (blk_cell BK121.out 0).trans rfl; have hcz27_1 : w26.cell? ⟨gb121, 1, none⟩ = some (.slice none 0 0) := (blk_cell BK121.out 1).trans rfl; have hfz27_0 := blk_frozen BK121.out 0; have hfz27_1 := blk_frozen BK121.out 1; obtain ⟨Ao28, co28, eo28⟩ := Kd.R_slice HO119.out; subst eo28))
    go_ret
    exact ⟨_, by first | rfl | (simp [errW_none, errW_some] <;> rfl) | (simp [*, errW_none, errW_some] <;> rfl), by first | exact Kd.R_nil _ _ _ _ _ | exact Kd.N_nil _ _ _ _ _ | exact Kd.V_nil _ _ _ _ _ | exact Kd.Q_nil _ _ _ _ _ | exact Kd.S_nil _ _ _ _ _, by repeat (first | (with_reducible first | exact HB.out | apply below_alloc | apply pw_below_drewN | apply below_drew1 | refine below_set ?_ GE121.out) | exact HB.out)⟩
end Go.Proofs.Ytipjnfljkknmgaa.Q
namespace Go.Proofs.Ytipjnfljkknmgaa.Q
open Go.RowKit Go.Proofs.YtipjnfljkknmgaaW.PrintWords Go.Proofs.YtipjnfljkknmgaaW.PrintLast Go.Proofs.YtipjnfljkknmgaaW.PrintMore
attribute [local go_sem] max2_int min2_int max_two min_two max_three min_three max_four min_four   -- for this text's walks alone
set_option linter.unusedVariables false
set_option linter.unusedSimpArgs false
attribute [local go_sem high] eqA32
def scrivenerref14_Same.l0 : Nat → List (S32) → List (S32) → Int → Option (Bool)
  | 0, _, _, _ => none
  | k + 1, x0, x1, x5 => if x5 < (x0.length : Int) then (if 0 ≤ x5 then (if x5 < (x1.length : Int) then (if (!(((rd_T32 x0 x5).f0) == ((rd_T32 x1 x5).f0)) || (!(((rd_T32 x0 x5).f1) == ((rd_T32 x1 x5).f1)))) = true then (some false) else (scrivenerref14_Same.l0 k x0 x1 (wrap64 (x5 + 1)))) else (none)) else (none)) else (some true)
def scrivenerref14_Same.f (k : Nat) (l0 : List (S32)) (l1 : List (S32)) : Option (Bool) := if (l0.length : Int) = (l1.length : Int) then (scrivenerref14_Same.l0 k l0 l1 0) else (some false)
set_option maxHeartbeats 8000000 in
set_option maxRecDepth 100000 in
theorem scrivenerref14_Same.calls (k : Nat) (A0 : Option Addr) (c0 : Nat) (l0 : List (S32)) (A1 : Option Addr) (c1 : Nat) (l1 : List (S32)) (r : Bool) (w : World) (hr0 : Kd.C k32 w A0 l0.length l0) (hc0 : l0.length ≤ c0) (hr1 : Kd.C k32 w A1 l1.length l1) (hc1 : l1.length ≤ c1) (h : scrivenerref14_Same.f k l0 l1 = some r) :
    Calls Try.prog 16 #[.slice A0 l0.length c0, .slice A1 l1.length c1] w fun e w' => e = .returned (.bool r) ∧ Drawn0 w w' := by
  have hu32 := Try.underlying32
  have HR0 := Aside0.mk hr0
  have HC0 := Aside0.mk hc0
  clear hr0 hc0
  have HR1 := Aside0.mk hr1
  have HC1 := Aside0.mk hc1
  clear hr1 hc1
  have H : (if (l0.length : Int) = (l1.length : Int) then (scrivenerref14_Same.l0 k l0 l1 0) else (some false)) = some r := h
  clear h
  by_cases c3 : (l0.length : Int) = (l1.length : Int)
  · rw [if_pos c3] at H
    have c3b0 : ((l0.length : Int) == (l1.length : Int)) = true := beq_iff_eq.mpr c3
    have c3b1 : ((l0.length : Int) != (l1.length : Int)) = false := bne_eq_false_iff_eq.mpr c3
    have c3b2 : (l0.length == l1.length) = true := by first | simpa using c3 | (simp at c3 ⊢; omega)
    clear c3
    have H' := Aside0.mk H
    clear H
    go_enter Try.func16, Try.ntmps16
    go_wp2
    repeat (go_quiet (fail); try go_wp2)
    go_loopg [5] k (fun kq v5 w' => ∃ (x5_1 : Int), v5 = .int .i64 x5_1 ∧ Aside0 (scrivenerref14_Same.l0 kq l0 l1 x5_1 = some r) ∧ Aside0 (kq ≤ k) ∧ Drawn0 w w')
    case atStart => exact ⟨(0), (by first | rfl | (simp; done) | (simp [*]; done)), H', ⟨Nat.le_refl _⟩, by repeat (first | exact Drawn0.refl _ | apply Drawn0.step)⟩
    case round =>
      clear H'
      try clear c1
      try clear p2
      try clear c3
      try clear c3b0
      try clear c3b1
      try clear c3b2
      obtain ⟨x5_1, rfl, HA, HK1, ⟨m1, rfl⟩⟩ := hrel
      cases gk with
      | zero => exact absurd HA.out (by simp [scrivenerref14_Same.l0])
      | succ k1 =>
        have H := HA.out
        clear HA
        simp only [scrivenerref14_Same.l0] at H
        by_cases c4 : x5_1 < (l0.length : Int)
        · rw [if_pos c4] at H
          have c4b0 : decide (x5_1 < (l0.length : Int)) = true := decide_eq_true c4
          clear c4
          by_cases c5 : 0 ≤ x5_1
          · rw [if_pos c5] at H
            have c5b0 : decide (0 ≤ x5_1) = true := decide_eq_true c5
            clear c5
            by_cases c6 : x5_1 < (l1.length : Int)
            · rw [if_pos c6] at H
              have c6b0 : decide (x5_1 < (l1.length : Int)) = true := decide_eq_true c6
              clear c6
              by_cases c7 : (!(((rd_T32 l0 x5_1).f0) == ((rd_T32 l1 x5_1).f0)) || (!(((rd_T32 l0 x5_1).f1) == ((rd_T32 l1 x5_1).f1)))) = true
              · rw [if_pos c7] at H
                have c7b0 : (!(((rd_T32 l0 x5_1).f0) == ((rd_T32 l1 x5_1).f0)) || (!(((rd_T32 l0 x5_1).f1) == ((rd_T32 l1 x5_1).f1)))) = true := c7
                clear c7
                obtain rfl := Option.some.inj H
                have p138 : 0 ≤ (x5_1 : Int) := of_decide_eq_true (by first | (with_reducible assumption) | assumption)
                have q138 : x5_1 < (l0.length : Int) := of_decide_eq_true (by first | (with_reducible assumption) | assumption)
                obtain ⟨ad138, e138, hx138_0, hx138_1⟩ := at_T32 HR0.out x5_1 p138 q138
                cases e138
                replace p138 := eq_true p138
                replace q138 := eq_true q138
                have p139 : 0 ≤ (x5_1 : Int) := of_decide_eq_true (by first | (with_reducible assumption) | assumption)
                have q139 : x5_1 < (l1.length : Int) := of_decide_eq_true (by first | (with_reducible assumption) | assumption)
                obtain ⟨ad139, e139, hx139_0, hx139_1⟩ := at_T32 HR1.out x5_1 p139 q139
                cases e139
                replace p139 := eq_true p139
                replace q139 := eq_true q139
                go_wp2
                repeat (go_quiet (fail); try go_wp2)
                go_ret
                exact ⟨by first | rfl | (simp; done) | (simp [*]; done), by repeat (first | exact Drawn0.refl _ | apply Drawn0.step)⟩
              · rw [if_neg c7] at H
                have c7b0 : (!(((rd_T32 l0 x5_1).f0) == ((rd_T32 l1 x5_1).f0)) || (!(((rd_T32 l0 x5_1).f1) == ((rd_T32 l1 x5_1).f1)))) = false := by simpa using c7
                clear c7
                have H' := Aside0.mk H
                clear H
                have p138 : 0 ≤ (x5_1 : Int) := of_decide_eq_true (by first | (with_reducible assumption) | assumption)
                have q138 : x5_1 < (l0.length : Int) := of_decide_eq_true (by first | (with_reducible assumption) | assumption)
                obtain ⟨ad138, e138, hx138_0, hx138_1⟩ := at_T32 HR0.out x5_1 p138 q138
                cases e138
                replace p138 := eq_true p138
                replace q138 := eq_true q138
                have p139 : 0 ≤ (x5_1 : Int) := of_decide_eq_true (by first | (with_reducible assumption) | assumption)
                have q139 : x5_1 < (l1.length : Int) := of_decide_eq_true (by first | (with_reducible assumption) | assumption)
                obtain ⟨ad139, e139, hx139_0, hx139_1⟩ := at_T32 HR1.out x5_1 p139 q139
                cases e139
                replace p139 := eq_true p139
                replace q139 := eq_true q139
                go_wp2
                repeat (go_quiet (fail); try go_wp2)
                go_roundg k1
                case measure => have := HK1.out; omega
                case rel => exact ⟨(wrap64 (x5_1 + 1)), (by first | rfl | (simp; done) | (simp [*]; done)), H', ⟨by have := HK1.out; omega⟩, by repeat (first | exact Drawn0.refl _ | apply Drawn0.step)⟩
            · rw [if_neg c6] at H
              exact absurd H (by simp)
          · rw [if_neg c5] at H
            exact absurd H (by simp)
        · rw [if_neg c4] at H
          have c4b0 : decide (x5_1 < (l0.length : Int)) = false := decide_eq_false c4
          clear c4
          obtain rfl := Option.some.inj H
          go_wp2
          repeat (go_quiet (fail); try go_wp2)
          go_ret
          exact ⟨by first | rfl | (simp; done) | (simp [*]; done), by repeat (first | exact Drawn0.refl _ | apply Drawn0.step)⟩
  · rw [if_neg c3] at H
    have c3b0 : ((l0.length : Int) == (l1.length : Int)) = false := beq_eq_false_iff_ne.mpr c3
    have c3b1 : ((l0.length : Int) != (l1.length : Int)) = true := bne_iff_ne.mpr c3
    have c3b2 : (l0.length == l1.length) = false := by first | simpa using c3 | (simp at c3 ⊢; omega)
    obtain rfl := Option.some.inj H
    go_enter Try.func16, Try.ntmps16
    go_wp2
    repeat (go_quiet (fail); try go_wp2)
    go_ret
    exact ⟨by first | rfl | (simp; done) | (simp [*]; done), by repeat (first | exact Drawn0.refl _ | apply Drawn0.step)⟩
end Go.Proofs.Ytipjnfljkknmgaa.Q
namespace Go.Proofs.Ytipjnfljkknmgaa.Q
open Go.RowKit Go.Proofs.YtipjnfljkknmgaaW.PrintWords Go.Proofs.YtipjnfljkknmgaaW.PrintLast Go.Proofs.YtipjnfljkknmgaaW.PrintMore
attribute [local go_sem] max2_int min2_int max_two min_two max_three min_three max_four min_four   -- for this text's walks alone
set_option linter.unusedVariables false
set_option linter.unusedSimpArgs false
def scrivenerlaw14_place.f (a0 : Int) : Option (Int × Int) := some (a0, 1)
set_option maxHeartbeats 8000000 in
set_option maxRecDepth 100000 in
theorem scrivenerlaw14_place.calls (a0 : Int) (r1 : Int) (r2 : Int) (w : World) (h : scrivenerlaw14_place.f a0 = some (r1, r2)) :
    Calls Try.prog 34 #[.int .i64 a0] w fun e w' => e = .returned (.agg #[.int .i64 r1, .int .u64 r2]) ∧ Below w.heap.size w w' := by
  have hu32 := Try.underlying32
  have HB := Aside0.mk (Below.refl w.heap.size w)
  have H : (some (a0, 1)) = some (r1, r2) := h
  clear h
  simp only [Option.some.injEq, Prod.mk.injEq] at H
  obtain ⟨rfl, rfl⟩ := H
  go_enter Try.func34, Try.ntmps34
  go_wp2_with (first | ((with_reducible refine gate_dst (N := 2) rfl ?_); refine box_event ?hg (N := 2) ?hd (cs := #[.int .i64 0, .int .u64 0]) (t := 32) ?hr ?_; (case hd => rfl); (case hg => rfl); (case hr => first | (go_simp; done) | (go_simp; rfl)); intro gb142 hg w2 hbox hb; have n0_ := Aside0.mk (below_step (Hb HB.out) hb); have n1_ := Aside0.mk (hbox); have n2_ := Aside0.mk ((by rw [hg]; exact (below_size (Hb HB.out)) : w.heap.size ≤ gb142)); have n3_ := Aside0.mk ((by rw [hg]; exact (below_size (Hb HB.out)) : w.heap.size ≤ gb142)); clear HB; have HB := n0_; have BK142 := n1_; have GW142 := n2_; have GE142 := n3_; clear n0_ n1_ n2_ n3_; clear hb hbox hg; have hcz3_0 : w2.cell? ⟨gb142, 0, none⟩ = some (.int .i64 0) := (blk_cell BK142.out 0).trans rfl; have hcz3_1 : w2.cell? ⟨gb142, 1, none⟩ = some (.int .u64 0) := (blk_cell BK142.out 1).trans rfl; have hfz3_0 := blk_frozen BK142.out 0; have hfz3_1 := blk_frozen BK142.out 1))
  refine bodyPost_ret (results_cell_row rfl _ _ gb142 32 #[.int .i64 a0, .int .u64 1] (0, 0) _ rfl (by (with_reducible repeat (first | refine blk_drewN ?_ _ | refine blk_drew ?_ | refine blk_alloc ?_ _)); refine blk_put (cs := #[.int .i64 a0, .int .u64 0]) ?_ 1 _ rfl; (with_reducible repeat (first | refine blk_drewN ?_ _ | refine blk_drew ?_ | refine blk_alloc ?_ _)); refine blk_put (cs := #[.int .i64 0, .int .u64 0]) ?_ 0 _ rfl; (with_reducible repeat (first | refine blk_drewN ?_ _ | refine blk_drew ?_ | refine blk_alloc ?_ _)); exact BK142.out) Try.underlying32 rfl (by kernel_rfl)) rfl ?_
  exact ⟨by first | rfl | (simp [errW_none, errW_some] <;> rfl) | (simp [*, errW_none, errW_some] <;> rfl), by repeat (first | (with_reducible first | exact HB.out | apply below_alloc | apply pw_below_drewN | apply below_drew1 | refine below_set ?_ GE142.out) | exact HB.out)⟩
end Go.Proofs.Ytipjnfljkknmgaa.Q
namespace Go.Proofs.Ytipjnfljkknmgaa.Q
open Go.RowKit Go.Proofs.YtipjnfljkknmgaaW.PrintWords Go.Proofs.YtipjnfljkknmgaaW.PrintLast Go.Proofs.YtipjnfljkknmgaaW.PrintMore
set_option linter.unusedVariables false
set_option linter.unusedSimpArgs false
theorem own_C {α : Type} {d : Kd α} {e : Nat} {W : World} {b n c : Nat} {ok : Nat → Prop} {A : Option Addr} {xs : List α} (h : d.R e W b ok (.slice A n c) xs) : d.C W A xs.length xs ∧ xs.length ≤ c := by
  obtain ⟨A', c', he, hl, hr⟩ := Kd.R_reads h
  injection he with h1 h2 h3
  subst h1
  subst h3
  exact ⟨hr, hl⟩
def findI (p : S32 → Bool) : List S32 → Int → Int
  | [], _ => -1
  | x :: l, i => if p x = true then i else findI p l (i + 1)
theorem findI_any (p : S32 → Bool) (l : List S32) : ∀ i : Int, 0 ≤ i → decide (0 ≤ findI p l i) = l.any p := by
  induction l with
  | nil => intro i h; simp [findI]
  | cons x l ih =>
    intro i h
    rw [findI, List.any_cons]
    by_cases hp : p x = true
    · simp [hp, h]
    · simp only [hp, if_false, Bool.false_eq_true]
      rw [ih (i + 1) (by omega)]
      simp
theorem drop_rdP (l : List S32) (i : Nat) (h : i < l.length) : l.drop i = rd_T32 l (i : Int) :: l.drop (i + 1) := by
  rw [List.drop_eq_getElem_cons h]
  simp [rd_T32, List.getD_eq_getElem?_getD, List.getElem?_eq_getElem h]
set_option maxHeartbeats 2000000 in
set_option maxRecDepth 100000 in
theorem idxPick1_calls (p : S32 → Bool) (cap : Value) (A0 : Option Addr) (c0 : Nat) (l0 : List S32) (w0 w : World) (hB0 : Below w0.heap.size w0 w) (hr0 : Kd.C k32 w0 A0 l0.length l0)
    (hF : ∀ (W : World) (x : S32), Below w0.heap.size w0 W → Calls Try.prog 41 #[.agg #[.int .i64 x.f0, .int .u64 x.f1], cap] W fun e w' => e = .returned (.bool (p x)) ∧ Below W.heap.size W w') :
    Calls Try.prog 56 #[.slice A0 l0.length c0, .func (.func 41) #[] #[cap]] w fun e w' => e = .returned (.int .i64 (findI p l0 0)) ∧ Below w.heap.size w w' := by
  have HB := Aside0.mk (Below.refl w.heap.size w)
  have HR0 := Aside0.mk hr0
  have HB0 := Aside0.mk hB0
  have HF := Aside0.mk hF
  have hlen : l0.length ≤ 9223372036854775807 := hr0.2.1
  generalize hr : findI p l0 0 = r
  have Hr := Aside0.mk hr
  clear hr hr0 hB0 hF
  go_enter Try.func56, Try.ntmps56
  go_wp2
  go_loopg [8] l0.length (fun kq v8 w' => ∃ (i : Nat), v8 = .int .i64 i ∧ Aside0 (findI p (l0.drop i) i = r) ∧ Aside0 (i + kq = l0.length) ∧ Aside0 (Below w.heap.size w w'))
  case atStart => exact ⟨0, rfl, ⟨by simpa using Hr.out⟩, ⟨by omega⟩, HB⟩
  case round =>
    clear Hr HB
    obtain ⟨i, rfl, HG, HI, HB⟩ := hrel
    by_cases hlt : i < l0.length
    · obtain ⟨ad, e1, h0, h1⟩ := at_T32 HR0.out (i : Int) (by omega) (by omega)
      cases e1
      generalize hy : rd_T32 l0 (i : Int) = y at h0 h1
      have HY := Aside0.mk hy
      clear hy
      have hb1 := below_step HB0.out HB.out
      replace h0 := (hb1.cell (World.block_lt_of_cell? w0 _ h0)).trans h0
      replace h1 := (hb1.cell (World.block_lt_of_cell? w0 _ h1)).trans h1
      simp only [Int.toNat_natCast] at h0 h1
      clear hb1
      have HG2 : Aside0 ((if p y = true then (i : Int) else findI p (l0.drop (i + 1)) ((i : Int) + 1)) = r) := by
        have := HG.out
        rw [drop_rdP l0 i hlt, HY.out, findI] at this
        exact ⟨this⟩
      clear HG
      cases hp : p y with
      | true =>
        have HE : Aside0 ((i : Int) = r) := by have := HG2.out; rw [if_pos hp] at this; exact ⟨this⟩
        have HP := Aside0.mk hp
        clear HG2 hp
        go_wp2_with (first | (go_at_call 41; ((with_reducible refine (HF.out _ y (below_step HB0.out HB.out)).mono ?_); rintro e w2 ⟨rfl, hb⟩; rw [HP.out]; have n0_ := Aside0.mk (below_step HB.out hb); clear HB hb; have HB := n0_; clear n0_)))
        go_ret
        obtain rfl := HE.out
        exact ⟨rfl, HB.out⟩
      | false =>
        have HG : Aside0 (findI p (l0.drop (i + 1)) ((i : Int) + 1) = r) := by have := HG2.out; rw [if_neg (by simp [hp])] at this; exact ⟨this⟩
        have HP := Aside0.mk hp
        clear HG2 hp
        go_wp2_with (first | (go_at_call 41; ((with_reducible refine (HF.out _ y (below_step HB0.out HB.out)).mono ?_); rintro e w2 ⟨rfl, hb⟩; rw [HP.out]; have n0_ := Aside0.mk (below_step HB.out hb); clear HB hb; have HB := n0_; clear n0_)))
        go_roundg (l0.length - i - 1)
        case measure => have := HI.out; omega
        case rel => exact ⟨i + 1, by go_num, ⟨by have := HG.out; simpa using this⟩, ⟨by have := HI.out; omega⟩, HB⟩
    · have HE : Aside0 ((-1 : Int) = r) := by have := HG.out; rw [List.drop_eq_nil_of_le (by omega), findI] at this; exact ⟨this⟩
      have hge : decide ((i : Int) < (l0.length : Int)) = false := by simp; omega
      clear HG
      go_wp2
      go_ret
      obtain rfl := HE.out
      exact ⟨rfl, HB.out⟩
set_option maxHeartbeats 2000000 in
set_option maxRecDepth 100000 in
theorem hasPick1_calls (p : S32 → Bool) (cap : Value) (A0 : Option Addr) (c0 : Nat) (l0 : List S32) (w0 w : World) (hB0 : Below w0.heap.size w0 w) (hr0 : Kd.C k32 w0 A0 l0.length l0)
    (hF : ∀ (W : World) (x : S32), Below w0.heap.size w0 W → Calls Try.prog 41 #[.agg #[.int .i64 x.f0, .int .u64 x.f1], cap] W fun e w' => e = .returned (.bool (p x)) ∧ Below W.heap.size W w') :
    Calls Try.prog 40 #[.slice A0 l0.length c0, .func (.func 41) #[] #[cap]] w fun e w' => e = .returned (.bool (l0.any p)) ∧ Below w.heap.size w w' := by
  have HB := Aside0.mk (Below.refl w.heap.size w)
  have HI := Aside0.mk (idxPick1_calls p cap A0 c0 l0 w0 w hB0 hr0 hF)
  have hi := findI_any p l0 0 (by omega)
  generalize l0.any p = b at hi
  generalize findI p l0 0 = r at HI hi
  have Hi := Aside0.mk hi
  clear hi hB0 hr0 hF
  go_enter Try.func40, Try.ntmps40
  go_wp2_with (first | (go_at_call 56; ((with_reducible refine HI.out.mono ?_); rintro e w2 ⟨rfl, hb⟩; have n0_ := Aside0.mk (below_step HB.out hb); clear HB hb; have HB := n0_; clear n0_)))
  go_ret
  rw [← Hi.out]
  exact ⟨rfl, HB.out⟩
end Go.Proofs.Ytipjnfljkknmgaa.Q
namespace Go.Proofs.Ytipjnfljkknmgaa.Q
open Go.RowKit Go.Proofs.YtipjnfljkknmgaaW.PrintWords Go.Proofs.YtipjnfljkknmgaaW.PrintLast Go.Proofs.YtipjnfljkknmgaaW.PrintMore
set_option linter.unusedVariables false
set_option linter.unusedSimpArgs false
instance instDecS : DecidableEq S32 := fun a b =>
  if h : a.f0 = b.f0 ∧ a.f1 = b.f1 then isTrue (by cases a; cases b; simp_all) else isFalse (by rintro rfl; simp at h)
theorem S_ext {a b : S32} (h0 : a.f0 = b.f0) (h1 : a.f1 = b.f1) : a = b := by cases a; cases b; simp_all
theorem eqS (a b : Int) (x : S32) : (a == x.f0 && (b == x.f1)) = decide ((⟨a, b⟩ : S32) = x) := by
  rw [Bool.eq_iff_iff]
  simp only [Bool.and_eq_true, beq_iff_eq, decide_eq_true_eq]
  exact ⟨fun h => S_ext h.1 h.2, fun h => by subst h; exact ⟨rfl, rfl⟩⟩
theorem rdT_get (l : List S32) (i : Nat) (h : i < l.length) : rd_T32 l (i : Int) = l[i] := by simp [rd_T32, List.getD_eq_getElem?_getD, List.getElem?_eq_getElem h]
theorem w1 (i : Nat) (h : (i : Int) < 9223372036854775807) : wrap64 ((i : Int) + 1) = ((i + 1 : Nat) : Int) := by unfold wrap64; omega
theorem index_ev (l : List S32) (a b : Int) (hn : l.length ≤ 9223372036854775807) (d : Nat) : ∀ (k i : Nat), i + d = l.length → d < k →
    ∃ r, api_Place_43.l0 k l (l.length : Int) (i : Int) a b = some r ∧ decide (r ≥ 0) = decide ((⟨a, b⟩ : S32) ∈ l.drop i) := by
  induction d with
  | zero =>
    intro k i hi hk
    obtain ⟨k, rfl⟩ : ∃ m, k = m + 1 := ⟨k - 1, by omega⟩
    refine ⟨-1, ?_, ?_⟩
    · simp only [api_Place_43.l0]; rw [if_neg (by omega)]
    · rw [List.drop_eq_nil_of_le (by omega)]; simp
  | succ d ih =>
    intro k i hi hk
    obtain ⟨k, rfl⟩ : ∃ m, k = m + 1 := ⟨k - 1, by omega⟩
    have hlt : i < l.length := by omega
    simp only [api_Place_43.l0]
    rw [if_pos (by omega), if_pos (by omega), if_pos (by omega), rdT_get l i hlt, eqS, List.drop_eq_getElem_cons hlt]
    by_cases e : (⟨a, b⟩ : S32) = l[i]
    · rw [if_pos (by simpa using e)]
      exact ⟨i, rfl, by rw [decide_eq_true (by omega : (i : Int) ≥ 0), decide_eq_true (by rw [e]; exact List.mem_cons_self)]⟩
    · rw [if_neg (by simpa using e), w1 i (by omega)]
      obtain ⟨r, h1, h2⟩ := ih k (i + 1) (by omega) (by omega)
      refine ⟨r, h1, ?_⟩
      rw [h2]
      congr 1
      simp only [List.mem_cons, e, false_or]
theorem contains_ev (l : List S32) (a b : Int) (hn : l.length ≤ 9223372036854775807) (k : Nat) (hk : l.length < k) : api_Place_47.f k l a b = some (decide ((⟨a, b⟩ : S32) ∈ l)) := by
  obtain ⟨r, h1, h2⟩ := index_ev l a b hn l.length k 0 (by omega) hk
  unfold api_Place_47.f api_Place_43.f
  rw [show (0 : Int) = ((0 : Nat) : Int) from rfl, h1]
  simpa using h2
/-- How many of a set are among others, each once. -/
def cntGo (among : List S32) : List S32 → List S32 → Nat
  | _, [] => 0
  | pre, x :: r => (if x ∈ among ∧ x ∉ pre then 1 else 0) + cntGo among (pre ++ [x]) r
def cnt (set among : List S32) : Nat := cntGo among [] set
theorem count_go (set among : List S32) (hs : set.length ≤ 4611686018427387903) (ha : among.length ≤ 9223372036854775807) (d : Nat) : ∀ (k i n : Nat), i + d = set.length → n ≤ i → d + set.length + among.length < k →
    api_Place_38.l0 k set among (n : Int) set (set.length : Int) (i : Int) = some ((n + cntGo among (set.take i) (set.drop i) : Nat) : Int) := by
  induction d with
  | zero =>
    intro k i n hi hn hk
    obtain ⟨k, rfl⟩ : ∃ m, k = m + 1 := ⟨k - 1, by omega⟩
    simp only [api_Place_38.l0]
    rw [if_neg (by omega), List.drop_eq_nil_of_le (by omega), cntGo]
    rfl
  | succ d ih =>
    intro k i n hi hn hk
    obtain ⟨k, rfl⟩ : ∃ m, k = m + 1 := ⟨k - 1, by omega⟩
    have hlt : i < set.length := by omega
    simp only [api_Place_38.l0]
    rw [if_pos (by omega), if_pos (by omega), if_pos (by omega), rdT_get set i hlt, contains_ev among _ _ ha k (by omega), Option.bind_some]
    have htk : set.take (i + 1) = set.take i ++ [set[i]] := by rw [List.take_succ_eq_append_getElem hlt]
    rw [List.drop_eq_getElem_cons hlt, cntGo, ← htk]
    have he : (⟨set[i].f0, set[i].f1⟩ : S32) = set[i] := rfl
    rw [he]
    by_cases h1 : set[i] ∈ among
    · rw [if_pos (by simpa using h1), if_pos (by omega)]
      rw [show ((i : Int)).toNat = i from by omega, contains_ev (set.take i) _ _ (by rw [List.length_take]; omega) k (by rw [List.length_take]; omega), Option.bind_some, he]
      by_cases h2 : set[i] ∈ set.take i
      · rw [if_pos (by simpa using h2), w1 i (by omega), ih k (i + 1) n (by omega) (by omega) (by omega), if_neg (fun h => h.2 h2)]
        simp
      · rw [if_neg (by simpa using h2), w1 i (by omega), w1 n (by omega), ih k (i + 1) (n + 1) (by omega) (by omega) (by omega), if_pos ⟨h1, h2⟩]
        congr 2
        omega
    · rw [if_neg (by simpa using h1), w1 i (by omega), ih k (i + 1) n (by omega) (by omega) (by omega), if_neg (fun h => h1 h.1)]
      simp
theorem count_ev (set among : List S32) (hs : set.length ≤ 4611686018427387903) (ha : among.length ≤ 9223372036854775807) (k : Nat) (hk : 2 * set.length + among.length < k) : api_Place_38.f k set among = some ((cnt set among : Nat) : Int) := by
  have h := count_go set among hs ha set.length k 0 0 (by omega) (by omega) (by omega)
  unfold api_Place_38.f cnt
  simpa using h
/-- So many of a row from a number on, round. -/
def fromL (l : List S32) (k w : Nat) : List S32 := (List.range w).map fun i => l.getD ((k + i) % l.length) z32
theorem fromL_length (l : List S32) (k w : Nat) : (fromL l k w).length = w := by simp [fromL]
theorem fromL_succ (l : List S32) (k w : Nat) : fromL l k (w + 1) = fromL l k w ++ [l.getD ((k + w) % l.length) z32] := by simp [fromL, List.range_succ]
theorem from_go (l : List S32) (k w : Nat) (hl : 0 < l.length) (hlm : l.length ≤ 9223372036854775807) (hk : (k : Int) + w ≤ 9223372036854775807) (hw : w ≤ 8796093022208) (d : Nat) : ∀ (n i : Nat), i + d = w → d < n →
    api_Place_36.l0 n l (k : Int) (fromL l k i) (w : Int) (i : Int) = some (fromL l k w) := by
  induction d with
  | zero =>
    intro n i hi hn
    obtain ⟨n, rfl⟩ : ∃ m, n = m + 1 := ⟨n - 1, by omega⟩
    obtain rfl : i = w := by omega
    simp only [api_Place_36.l0]
    rw [if_neg (by omega)]
  | succ d ih =>
    intro n i hi hn
    obtain ⟨n, rfl⟩ : ∃ m, n = m + 1 := ⟨n - 1, by omega⟩
    have hwr : wrap64 ((k : Int) + i) = ((k + i : Nat) : Int) := by unfold wrap64; omega
    have hm : Int.tmod ((k + i : Nat) : Int) (l.length : Int) = (((k + i) % l.length : Nat) : Int) := by
      rw [Int.tmod_eq_emod_of_nonneg (by omega)]; rfl
    have hlt : (k + i) % l.length < l.length := Nat.mod_lt _ hl
    simp only [api_Place_36.l0]
    rw [if_pos (by omega), if_neg (by omega), hwr, hm, if_pos (by omega), if_pos (by omega), if_pos (by rw [fromL_length]; omega)]
    have he : (⟨(rd_T32 l (((k + i) % l.length : Nat) : Int)).f0, (rd_T32 l (((k + i) % l.length : Nat) : Int)).f1⟩ : S32) = l.getD ((k + i) % l.length) z32 := by
      simp only [rd_T32, Int.toNat_natCast]
    rw [he, ← fromL_succ, w1 i (by omega)]
    exact ih n (i + 1) (by omega) (by omega)
theorem from_ev (l : List S32) (k w : Nat) (hl : 0 < l.length) (hlm : l.length ≤ 9223372036854775807) (hk : (k : Int) + w ≤ 9223372036854775807) (hw : w ≤ 8796093022208) (n : Nat) (hn : w < n) : api_Place_36.f n l (k : Int) (w : Int) = some (fromL l k w) := by
  have h := from_go l k w hl hlm hk hw w n 0 (by omega) hn
  unfold api_Place_36.f
  simpa [fromL] using h
/-- Are so many of a set among others that those who are not cannot be a? -/
def missB (set : List S32) (w a : Int) (from_ : List S32) : Bool := if w < a then true else decide (wrap64 (w - a) < (cnt set from_ : Int))
theorem missing_ev (set : List S32) (w a : Int) (from_ : List S32) (hs : set.length ≤ 4611686018427387903) (ha : from_.length ≤ 9223372036854775807) (k : Nat) (hk : 2 * set.length + from_.length < k) : stripe_Missing.f k set w a from_ = some (missB set w a from_) := by
  unfold stripe_Missing.f missB
  split
  · rfl
  · rw [count_ev set from_ hs ha k hk]; rfl
end Go.Proofs.Ytipjnfljkknmgaa.Q
namespace Go.Proofs.Ytipjnfljkknmgaa.Range
open Go.RowKit
set_option linter.unusedVariables false
variable {P : Program} {α : Type}
/-- What abides the turn of a block that is no cells and lies at or beyond B. -/
def Abide (B : Nat) (J : World → Prop) : Prop := ∀ W W' row, J W → W.grownBy W' row → (∀ r, row = some r → B ≤ r ∧ ∃ o : Obj, W.heap[r]? = some o ∧ o.isCells = false) → J W'
theorem Abide.put {B : Nat} {J : World → Prop} (h : Abide B J) {W : World} {l : Nat} {o : Obj} (o' : Obj) (hs : J W) (hB : B ≤ l) (hl : W.heap[l]? = some o) (ho : o.isCells = false) : J (W.putObj l o') :=
  h W _ (some l) hs (grownBy_putObj' W l o') (fun r e => by cases e; exact ⟨hB, o, hl, ho⟩)
theorem Abide.alloc {B : Nat} {J : World → Prop} (h : Abide B J) {W : World} (o : Obj) (hs : J W) : J (W.alloc o) := h W _ none hs (World.grownBy_alloc W o none) (fun r e => by cases e)
theorem abide_below {n₀ B : Nat} {w₀ : World} (hn : n₀ ≤ w₀.heap.size) (hB : n₀ ≤ B) : Abide B (fun W => Below n₀ w₀ W) :=
  fun _ _ _ hs hg hr => hs.grown hg (Nat.le_trans hn hs.size) (fun k e => Nat.le_trans hB (hr k e).1)
/-- The iterator: it hands over value after value (encs x), of each of which Rx holds then; a round that goes on keeps what lay below n₀. -/
def SeqR (P : Program) (g : Nat) (lb : Array Value) (encs : α → Array Value) (n₀ : Nat) (Rx : Nat → α → World → Prop) (N : Nat) (w : World) : Prop :=
  ∀ (l : Nat) (J : Nat → World → Prop) (Jx : World → Prop) (W : World), Below w.heap.size w W → n₀ ≤ W.heap.size →
    (∀ k W1 W2, J k W1 → Below W1.heap.size W1 W2 → J k W2) →
    (∀ k x W1, J k W1 → Rx k x W1 → k < N → YieldAt Fence.wide 2 P l (encs x) W1 fun e W' =>
      (e = .returned (.bool true) ∧ J (k + 1) W' ∧ Below n₀ W1 W') ∨ (e = .returned (.bool false) ∧ Jx W')) →
    J 0 W →
    CallsIn Fence.wide 3 P g (#[.func (.yield l) #[] #[]] ++ lb) W fun e W' => (∃ v, e = .returned v) ∧ (J N W' ∨ Jx W')
/-- How the body of a round may be left. -/
def outR (n₀ : Nat) (I : Nat → World → Prop) (Ix : World → Prop) (k : Nat) (W : World) : Exit → Act → World → Prop
  | .normal, _, W' => KeepsOthers W W' ∧ Below n₀ W W' ∧ I k W'
  | .ret, _, W' => KeepsOthers W W' ∧ Ix W'
  | _, _, _ => False
theorem range_walk {g : Operand} {ps : Array Tmp} {assign body : Code} {Q : Exit → Act → World → Prop} {a : Act} {w : World}
    {gf : Nat} {lb : Array Value} (hg : a.eval g = .func (.func gf) #[] lb) (eg : ∀ args w, (callFunc gf args).run P w = .ok (.enter gf args) w)
    {encs : α → Array Value} {Rx : Nat → α → World → Prop} {N : Nat} (hseq : SeqR P gf lb encs w.heap.size Rx N w)
    (hps : ∀ x, (encs x).size = ps.size)
    (I : Nat → World → Prop) (Ix : World → Prop) (hI : ∀ k, Abide w.heap.size (I k)) (hIx : Abide w.heap.size Ix) (hIb : ∀ k W W', I k W → Below W.heap.size W W' → I k W') (hRx : ∀ k x, Abide w.heap.size (Rx k x)) (h0 : I 0 w) (a₁ : α → Act)
    (hassign : ∀ (l : Nat) (x : α) (W : World) (K : Act → World → Prop), K (a₁ x) W →
      assign.wpIn (Fence.wide.inRound l) 2 P (Exit.then K (fun _ _ _ => False)) { tmps := (ps.zip (encs x)).foldl (fun t (p, v) => t.setIfInBounds p v) a.tmps, defers := [] } W)
    (hbody : ∀ (l k : Nat) (x : α) (W : World), I k W → Rx k x W → k < N → body.wpIn (Fence.wide.inRound l) 2 P (outR w.heap.size I Ix (k + 1) W) (a₁ x) W)
    (hdone : ∀ (D : Nat) (W : World), w.heap.size ≤ D → I N W → W.heap[D]? = some (.deferred (some [])) → Q .normal { a with defers := { target := .collected D, args := #[] } :: a.defers } W)
    (hstop : ∀ (D : Nat) (W : World), w.heap.size ≤ D → Ix W → W.heap[D]? = some (.deferred (some [])) → Code.ret.wpIn Fence.wide 4 P Q { a with defers := { target := .collected D, args := #[] } :: a.defers } W) :
    (Code.rangeFunc g ps assign body).wpIn Fence.wide 4 P Q a w := by
  refine wpIn_rangeFunc ?_
  intro fn hfn
  rw [show Fence.wide.round = none from rfl]
  obtain ⟨rec, hrec⟩ : ∃ rec : LoopState → Option Code → Loop, rec = fun st pe => { state := st, pending := pe, fn, tmps := a.tmps, params := ps, assign, body, defers := w.heap.size } := ⟨_, rfl⟩
  obtain ⟨W1, hW1⟩ : ∃ W1, (w.alloc (.deferred (some []))).alloc (.loop (rec .ready none)) = W1 := ⟨_, rfl⟩
  have hL1 : W1.heap[w.heap.size + 1]? = some (.loop (rec .ready none)) := by
    rw [← hW1]
    have := World.alloc_heap_new (w.alloc (.deferred (some []))) (.loop (rec .ready none))
    rwa [World.size_alloc] at this
  have hK1 : W1.heap[w.heap.size]? = some (.deferred (some [])) := by
    rw [← hW1]
    exact (Below.heap_alloc _ _ _ (by simp)).trans (World.alloc_heap_new w _)
  have hb1 : Below w.heap.size w W1 := by rw [← hW1]; exact ((Below.refl _ w).alloc (Nat.le_refl _) _).alloc (by simp) _
  have hs1 : w.heap.size + 1 < W1.heap.size := (Array.getElem?_eq_some_iff.1 hL1).1
  have keep : ∀ {A B : World} {k : Nat} {o : Obj}, Below A.heap.size A B → A.heap[k]? = some o → B.heap[k]? = some o := fun hb h => (hb.block _ (Array.getElem?_eq_some_iff.1 h).1).trans h
  refine ⟨w.heap.size + 1, [{ target := .collected w.heap.size, args := #[] }], W1, { target := .fn (.func gf) lb, args := #[.func (.yield (w.heap.size + 1)) #[] #[]] }, W1, gf,
    #[.func (.yield (w.heap.size + 1)) #[] #[]] ++ lb, W1, ?_, ?_, ?_, ?_, fun _ => by omega, ?_⟩
  · rw [← hW1, hrec]; exact run_enterLoop_outer _ _ _ _ _
  · simp only [resolve, hg]
    simp [go_sem]
  · intro f' _; trivial
  · simp [invoke, go_sem, eg]
  · refine (hseq (w.heap.size + 1)
      (fun k W => (I k W ∧ Below w.heap.size w W) ∧ W.heap[w.heap.size + 1]? = some (.loop (rec .ready none)) ∧ W.heap[w.heap.size]? = some (.deferred (some [])))
      (fun W => Ix W ∧ W.heap[w.heap.size + 1]? = some (.loop (rec .done (some .ret))) ∧ W.heap[w.heap.size]? = some (.deferred (some [])))
      W1 hb1 (by omega)
      (fun k A B hj hb => ⟨⟨hIb k A B hj.1.1 hb, hj.1.2.trans (hb.mono hj.1.2.size)⟩, keep hb hj.2.1, keep hb hj.2.2⟩)
      ?_ ⟨⟨by rw [← hW1]; exact (hI 0).alloc _ ((hI 0).alloc _ h0), hb1⟩, hL1, hK1⟩).mono ?_
    · rintro k x W ⟨⟨hi, hbw⟩, hl, hk⟩ hx hlen
      have hlt : w.heap.size + 1 < W.heap.size := (Array.getElem?_eq_some_iff.1 hl).1
      have hy := run_yield (P := P) (args := encs x) hl (by rw [hrec]; exact hps x)
      rw [hrec] at hy
      refine ⟨fn, _, assign, body, hy, roundIn_of_wpIn hfn (hassign _ x W _ ⟨_, run_beginRound hl (by rw [hrec]), ?_⟩)⟩
      have hl2 : (W.putObj (w.heap.size + 1) (.loop { rec .ready none with state := .busy })).heap[w.heap.size + 1]? = some (.loop { rec .ready none with state := .busy }) := World.putObj_heap_same hlt
      have hk2 : (W.putObj (w.heap.size + 1) (.loop { rec .ready none with state := .busy })).heap[w.heap.size]? = some (.deferred (some [])) := (World.putObj_heap_other (by omega)).trans hk
      have hw2 : Below w.heap.size W (W.putObj (w.heap.size + 1) (.loop { rec .ready none with state := .busy })) := belowK_b (w := w) (Nat.le_refl _) W _ _ _ (by omega) hl rfl rfl
      refine wpIn_mono (hbody _ k x _ ((hI k).put _ hi (by omega) hl rfl) ((hRx k x).put _ hx (by omega) hl rfl) hlen) ?_
      have fin : ∀ (jump : Option Code) (W3 : World), KeepsOthers (W.putObj (w.heap.size + 1) (.loop { rec .ready none with state := .busy })) W3 →
          (Instr.endRound (w.heap.size + 1) jump).run P W3 = .ok (.bool jump.isNone) (W3.putObj (w.heap.size + 1) (.loop (rec (if jump.isNone then .ready else .done) jump))) ∧
          W3.heap[w.heap.size + 1]? = some (.loop { rec .ready none with state := .busy }) ∧
          (W3.putObj (w.heap.size + 1) (.loop (rec (if jump.isNone then .ready else .done) jump))).heap[w.heap.size + 1]? = some (.loop (rec (if jump.isNone then .ready else .done) jump)) ∧
          (W3.putObj (w.heap.size + 1) (.loop (rec (if jump.isNone then .ready else .done) jump))).heap[w.heap.size]? = some (.deferred (some [])) := fun jump W3 hk3 => by
        have hl3 := hk3.same _ _ hl2 rfl
        have := run_endRound (P := P) jump hl3
        rw [hrec] at this ⊢
        exact ⟨this, by rw [hrec] at hl3; exact hl3, World.putObj_heap_same (Array.getElem?_eq_some_iff.1 hl3).1, (World.putObj_heap_other (by omega)).trans (hk3.same _ _ hk2 rfl)⟩
      rintro e a3 W3 hp
      cases e with
      | normal =>
        obtain ⟨hk3, hkp3, hi3⟩ := hp
        obtain ⟨hr, hl3, hl4, hk4⟩ := fin none W3 hk3
        have hb4 : Below w.heap.size W3 (W3.putObj (w.heap.size + 1) (.loop (rec .ready none))) := belowK_b (w := w) (Nat.le_refl _) W3 _ _ _ (by omega) hl3 rfl rfl
        exact ⟨_, _, hr, .inl ⟨rfl, ⟨⟨(hI _).put _ hi3 (by omega) hl3 rfl, ((hbw.trans hw2).trans hkp3).trans hb4⟩, hl4, hk4⟩, (hw2.trans hkp3).trans hb4⟩⟩
      | ret =>
        obtain ⟨hk3, hi3⟩ := hp
        obtain ⟨hr, hl3, hl4, hk4⟩ := fin (some .ret) W3 hk3
        exact ⟨_, _, hr, .inr ⟨rfl, hIx.put _ hi3 (by omega) hl3 rfl, hl4, hk4⟩⟩
      | exit id => exact hp.elim
      | goto t => exact hp.elim
      | panic ch => exact hp.elim
      | outgrown => exact hp.elim
    · rintro e W2 ⟨⟨v, rfl⟩, (⟨⟨hi, _⟩, hl, hk⟩ | ⟨hi, hl, hk⟩)⟩
      · exact ⟨none, _, by have := run_endLoop (P := P) hl (by rw [hrec]; simp); rw [hrec] at this; exact this, hdone _ _ (Nat.le_refl _) ((hI _).put _ hi (by omega) hl rfl) ((World.putObj_heap_other (by omega)).trans hk)⟩
      · exact ⟨some .ret, _, by have := run_endLoop (P := P) hl (by rw [hrec]; simp); rw [hrec] at this; exact this, hstop _ _ (Nat.le_refl _) (hIx.put _ hi (by omega) hl rfl) ((World.putObj_heap_other (by omega)).trans hk)⟩
end Go.Proofs.Ytipjnfljkknmgaa.Range
namespace Go.Proofs.Ytipjnfljkknmgaa.Q
open Go.RowKit Go.Proofs.YtipjnfljkknmgaaW.PrintWords Go.Proofs.YtipjnfljkknmgaaW.PrintLast Go.Proofs.YtipjnfljkknmgaaW.PrintMore
set_option linter.unusedVariables false
set_option linter.unusedSimpArgs false
open Go.Proofs.Ytipjnfljkknmgaa.Range
attribute [local go_sem] Oper.semAt_some
def stripe_Covered.f (a0 : Int) (l0 : List S32) (a1 a2 : Int) (l3 : List S32) : Option Bool :=
  if a1 < 1 ∨ a1 > (l0.length : Int) then some false else if l0.length ≤ 8796093022208 then some ((List.range l0.length).all fun k => missB (fromL l0 k a1.toNat) a1 a2 l3) else none
set_option maxHeartbeats 2000000 in
set_option maxRecDepth 100000 in
/-- The iterator of stripe.sets: write set after write set, each in new memory. -/
theorem sets1_seq (f0 : Int) (A : Option Addr) (c : Nat) (l : List S32) (wn : Int) (S : Nat → List S32) (hS : ∀ k, k < l.length → ∃ n, api_Place_36.f n l (k : Int) wn = some (S k)) (gf gw : Nat) (w0 w : World) (n₀ : Nat) (hn0 : w0.heap.size ≤ n₀)
    (hbf : w.heap[gf]? = some (.cells #[.int .u64 f0, .slice A l.length c] 25 (0, 0))) (hbw : w.heap[gw]? = some (.cells #[.int .i64 wn] 3 (0, 0))) (hr : Kd.C k32 w0 A l.length l) (hc : l.length ≤ c) (hB0 : Below w0.heap.size w0 w) (hgf : gf < n₀) (hgw : gw < n₀) :
    SeqR Try.prog 54 #[.pointer (some ⟨gf, 0, none⟩), .pointer (some ⟨gw, 0, none⟩)] (fun x : Option Addr × Nat × Nat => #[.slice x.1 x.2.1 x.2.2]) n₀ (fun k x W => x.2.1 = (S k).length ∧ (S k).length ≤ x.2.2 ∧ k32.C W x.1 (S k).length (S k)) l.length w := by
  intro lb J Jx W hBW hnW hJ hY h0
  refine callsIn_of_wp Try.func54 rfl trivial ?_ rfl
  simp only [Try.ntmps54, List.size_toArray, List.length_cons, List.length_nil, Nat.reduceAdd, Nat.reduceSub, Array.replicate_succ, Array.replicate_zero, List.push_toArray, List.append_toArray, List.nil_append, List.cons_append]
  have hlen : l.length ≤ 9223372036854775807 := hr.2.1
  have BF := Aside0.mk (blk_below hbf hBW)
  have BW := Aside0.mk (blk_below hbw hBW)
  have HR := Aside0.mk hr
  have HS := Aside0.mk hS
  have HJ := Aside0.mk hJ
  have HY := Aside0.mk hY
  have H0 := Aside0.mk h0
  have HBW := Aside0.mk (below_step hB0 hBW)
  have HC := Aside0.mk hc
  clear hbf hbw hr hS hJ hY h0 hBW hB0 hc
  have c1 : W.cell? ⟨gf, 1, none⟩ = some (.slice A l.length c) := (blk_cell BF.out 1).trans rfl
  gi_wp2
  gi_loopw [8] (fun i wr => ∃ k : Nat, k ≤ l.length ∧ i = .int .i64 k ∧ Aside0 (J k wr) ∧ Aside0 (Below n₀ W wr))
    (fun i _ => l.length - (intOf i).toNat)
  case atStart => exact ⟨0, Nat.zero_le _, rfl, H0, ⟨Below.refl _ _⟩⟩
  case round =>
    clear c1
    obtain ⟨k, hk, rfl, HJk, HBn⟩ := hrel
    have BFr := Aside0.mk ((HBn.out.block gf hgf).trans BF.out)
    have BWr := Aside0.mk ((HBn.out.block gw hgw).trans BW.out)
    have c1 : wr.cell? ⟨gf, 1, none⟩ = some (.slice A l.length c) := (blk_cell BFr.out 1).trans rfl
    have c2 : wr.cell? ⟨gw, 0, none⟩ = some (.int .i64 wn) := (blk_cell BWr.out 0).trans rfl
    have HBr : Aside0 (Below w0.heap.size w0 wr) := ⟨HBW.out.trans (HBn.out.mono hn0)⟩
    have HSr : Aside0 (n₀ ≤ wr.heap.size) := ⟨Nat.le_trans hnW HBn.out.size⟩
    by_cases hlt : k < l.length
    · obtain ⟨nn, hn⟩ := HS.out k hlt
      have HN := Aside0.mk hn
      clear hn
      gi_wp2_with (fail)
      refine ⟨trivial, ?_⟩
      refine (callsIn_wide.2 (api_Place_36.calls nn A c l (k : Int) wn (S k) wr (Kd.C_below HR.out HBr.out) HC.out HN.out)).mono ?_
      rintro e W3 ⟨v, rfl, ho, hb3⟩
      obtain ⟨A', c', rfl, hlc, hC⟩ := Kd.R_reads ho
      have hJ3 := HJ.out k wr W3 HJk.out hb3
      obtain ⟨fn, tmps, assign, body, hy, hR⟩ := HY.out k (A', (S k).length, c') W3 hJ3 ⟨rfl, hlc, hC⟩ hlt
      dsimp only at hy
      have HB3 := Aside0.mk hb3
      clear hb3 hJ3 hC hlc ho
      gi_wp2
      refine hR.mono ?_
      rintro e W4 (⟨rfl, hJ4, hk4⟩ | ⟨rfl, hJx⟩)
      · have HJ4 := Aside0.mk hJ4
        have HK4 := Aside0.mk hk4
        clear hJ4 hk4 hy hR
        gi_wp2
        go_roundw
        case rel => exact ⟨k + 1, by omega, by simp, HJ4, ⟨(HBn.out.trans (HB3.out.mono HSr.out)).trans HK4.out⟩⟩
        case measure => simp [intOf]; omega
      · clear hy hR
        gi_wp2
        refine bodyPost_ret (results_none rfl _ _ _) rfl ?_
        exact ⟨⟨_, rfl⟩, .inr hJx⟩
    · obtain rfl : k = l.length := by omega
      gi_wp2
      go_end0
      exact ⟨⟨_, rfl⟩, .inl HJk.out⟩
set_option maxHeartbeats 2000000 in
set_option maxRecDepth 100000 in
theorem sets_calls (f0 : Int) (A : Option Addr) (n c : Nat) (wn : Int) (w : World) :
    Calls Try.prog 37 #[.agg #[.int .u64 f0, .slice A n c], .int .i64 wn] w fun e w' => ∃ gf gw, e = .returned (.func (.func 54) #[] #[.pointer (some ⟨gf, 0, none⟩), .pointer (some ⟨gw, 0, none⟩)]) ∧ w.heap.size ≤ gf ∧ w.heap.size ≤ gw ∧ gf < w'.heap.size ∧ gw < w'.heap.size ∧
      w'.heap[gf]? = some (.cells #[.int .u64 f0, .slice A n c] 25 (0, 0)) ∧ w'.heap[gw]? = some (.cells #[.int .i64 wn] 3 (0, 0)) ∧ Below w.heap.size w w' := by
  have HB := Aside0.mk (Below.refl w.heap.size w)
  go_enter Try.func37, Try.ntmps37
  go_wp2_with (first | ((with_reducible refine gate_dst (N := 2) rfl ?_); (refine box_event ?hg (N := 2) ?hd (cs := #[.int .u64 f0, .slice A n c]) (t := 25) ?hr ?_; (case hd => rfl); (case hg => rfl); (case hr => first | (go_simp; done) | (go_simp; rfl)); intro gf hg wf hbox hb; have z0_ := Aside0.mk (below_step HB.out hb); have z1_ := Aside0.mk (hbox); have z2_ := Aside0.mk (((by rw [hg]; exact (below_size HB.out)) : w.heap.size ≤ gf)); clear HB; have HB := z0_; clear z0_; have BKf := z1_; clear z1_; have GEf := z2_; clear z2_; clear hb hbox hg; have hcf_0 : wf.cell? ⟨gf, 0, none⟩ = some (.int .u64 f0) := (blk_cell BKf.out 0).trans rfl; have hff_0 := blk_frozen BKf.out 0; have hcf_1 : wf.cell? ⟨gf, 1, none⟩ = some (.slice A n c) := (blk_cell BKf.out 1).trans rfl; have hff_1 := blk_frozen BKf.out 1; skip)) | ((with_reducible refine gate_dst (N := 3) rfl ?_); (refine box_event ?hg (N := 3) ?hd (cs := #[.int .i64 wn]) (t := 3) ?hr ?_; (case hd => rfl); (case hg => rfl); (case hr => first | (go_simp; done) | (go_simp; rfl)); intro gw hg ww hbox hb; clear hcf_0 hff_0 hcf_1 hff_1; have z0_ := Aside0.mk (below_step HB.out hb); have z1_ := Aside0.mk (blk_below BKf.out hb); have z2_ := Aside0.mk (hbox); have z3_ := Aside0.mk (((by rw [hg]; exact (below_size HB.out)) : w.heap.size ≤ gw)); have z4_ := Aside0.mk (((fun e_ => by have := blk_lt BKf.out; omega) : gf ≠ gw)); have z5_ := Aside0.mk (((fun e_ => by have := blk_lt BKf.out; omega) : gw ≠ gf)); clear HB BKf; have HB := z0_; clear z0_; have BKf := z1_; clear z1_; have BKw := z2_; clear z2_; have GEw := z3_; clear z3_; have NEf_w := z4_; clear z4_; have NEw_f := z5_; clear z5_; clear hb hbox hg; have hcf_0 : ww.cell? ⟨gf, 0, none⟩ = some (.int .u64 f0) := (blk_cell BKf.out 0).trans rfl; have hff_0 := blk_frozen BKf.out 0; have hcf_1 : ww.cell? ⟨gf, 1, none⟩ = some (.slice A n c) := (blk_cell BKf.out 1).trans rfl; have hff_1 := blk_frozen BKf.out 1; have hcw_0 : ww.cell? ⟨gw, 0, none⟩ = some (.int .i64 wn) := (blk_cell BKw.out 0).trans rfl; have hfw_0 := blk_frozen BKw.out 0; skip)))
  go_ret
  exact ⟨gf, gw, rfl, GEf.out, GEw.out, blk_lt BKf.out, blk_lt BKw.out, BKf.out, BKw.out, HB.out⟩
theorem C_cells {W W' : World} {A : Option Addr} {n : Nat} {xs : List S32} (h : Kd.C k32 W A n xs) (hc : ∀ a v, W.cell? a = some v → W'.cell? a = some v) : Kd.C k32 W' A n xs := by
  obtain ⟨h1, h2, h3⟩ := h
  refine ⟨h1, h2, fun hn => ?_⟩
  obtain ⟨ad, e, hh⟩ := h3 hn
  refine ⟨ad, e, fun j p hj => ?_⟩
  obtain ⟨c, hl, hk, hx⟩ := hh j p hj
  refine ⟨c, hl, ?_, fun i u hi => hc _ _ (hx i u hi)⟩
  obtain rfl := k32_open hk
  exact k32_mk _ _
theorem abide_blk {B g : Nat} {cs : Array Value} {t : TypeId} : Abide B (fun W => W.heap[g]? = some (.cells cs t (0, 0))) :=
  fun W W' row h hg hr => (grownBy_keeps_cells hg (fun r e => (hr r e).2) h rfl).trans h
theorem abide_and {B : Nat} {J K : World → Prop} (h : Abide B J) (k : Abide B K) : Abide B (fun W => J W ∧ K W) := fun W W' row hs hg hr => ⟨h W W' row hs.1 hg hr, k W W' row hs.2 hg hr⟩
theorem abide_prop {B : Nat} {p : Prop} : Abide B (fun _ => p) := fun _ _ _ h _ _ => h
theorem five_blocks (w : World) (o1 o2 o3 o4 o5 : Obj) : ∃ W, ((((w.alloc o1).alloc o2).alloc o3).alloc o4).alloc o5 = W ∧ W.heap.size = w.heap.size + 5 ∧ W.heap[w.heap.size]? = some o1 ∧ W.heap[w.heap.size + 1]? = some o2 ∧ W.heap[w.heap.size + 1 + 1]? = some o3 ∧ W.heap[w.heap.size + 1 + 1 + 1]? = some o4 ∧ W.heap[w.heap.size + 1 + 1 + 1 + 1]? = some o5 ∧ Below w.heap.size w W := by
  refine ⟨_, rfl, by simp, ?_, ?_, ?_, ?_, ?_, ?_⟩
  · exact blk_alloc (blk_alloc (blk_alloc (blk_alloc (blk_new w o1) o2) o3) o4) o5
  · have := blk_new (w.alloc o1) o2; rw [World.size_alloc] at this; exact blk_alloc (blk_alloc (blk_alloc this o3) o4) o5
  · have := blk_new ((w.alloc o1).alloc o2) o3; rw [World.size_alloc, World.size_alloc] at this; exact blk_alloc (blk_alloc this o4) o5
  · have := blk_new (((w.alloc o1).alloc o2).alloc o3) o4; rw [World.size_alloc, World.size_alloc, World.size_alloc] at this; exact blk_alloc this o5
  · have := blk_new ((((w.alloc o1).alloc o2).alloc o3).alloc o4) o5; rw [World.size_alloc, World.size_alloc, World.size_alloc, World.size_alloc] at this; exact this
  · exact below_alloc (below_alloc (below_alloc (below_alloc (below_alloc (Below.refl _ _) _) _) _) _) _
set_option maxHeartbeats 4000000 in
set_option maxRecDepth 100000 in
theorem stripe_Covered.calls (a0_0 : Int) (A0_1 : Option Addr) (c0_1 : Nat) (l0_1 : List S32) (a1 a2 : Int) (A3 : Option Addr) (c3 : Nat) (l3 : List S32) (r : Bool) (w : World) (hr0_1 : Kd.C k32 w A0_1 l0_1.length l0_1) (hc0_1 : l0_1.length ≤ c0_1) (hr3 : Kd.C k32 w A3 l3.length l3) (hc3 : l3.length ≤ c3) (h : stripe_Covered.f a0_0 l0_1 a1 a2 l3 = some r) :
    Calls Try.prog 15 #[.agg #[.int .u64 a0_0, .slice A0_1 l0_1.length c0_1], .int .i64 a1, .int .i64 a2, .slice A3 l3.length c3] w fun e w' => e = .returned (.bool r) ∧ Below w.heap.size w w' := by
  have HR0 := Aside0.mk hr0_1
  have HC0 := Aside0.mk hc0_1
  have HR3 := Aside0.mk hr3
  have HC3 := Aside0.mk hc3
  have hlen : l0_1.length ≤ 9223372036854775807 := hr0_1.2.1
  clear hr0_1 hc0_1 hr3 hc3
  unfold stripe_Covered.f at h
  refine (callsIn_wide (n := 4)).1 ?_
  refine callsIn_of_wp_marks Try.func15 rfl trivial ?_ rfl
  simp only [Try.ntmps15, List.size_toArray, List.length_cons, List.length_nil, Nat.reduceAdd, Nat.reduceSub, Array.replicate_succ, Array.replicate_zero, List.push_toArray, List.append_toArray, List.nil_append, List.cons_append]
  by_cases h1 : a1 < 1
  · rw [if_pos (.inl h1)] at h
    obtain rfl := Option.some.inj h
    have d1 : decide (a1 < 1) = true := decide_eq_true h1
    clear h h1
    gi_wp2
    obtain ⟨W, hW, hsz, b4, b5, b6, b7, b8, hb⟩ := five_blocks w (.cells #[.int .u64 a0_0, .slice A0_1 l0_1.length c0_1] 25 (0, 0)) (.cells #[.int .i64 a1] 3 (0, 0)) (.cells #[.int .i64 a2] 3 (0, 0)) (.cells #[.slice A3 l3.length c3] 23 (0, 0)) (.cells #[.bool false] 4 (0, 0))
    rw [hW]
    refine ⟨.bool false, ?_, rfl, hb⟩
    have hc8 : W.cell? ⟨w.heap.size + 1 + 1 + 1 + 1, 0, none⟩ = some (.bool false) := (blk_cell b8 0).trans rfl
    simp [results, Try.f15, go_sem, hc8]
  · have d1 : decide (a1 < 1) = false := decide_eq_false h1
    by_cases h2 : a1 > (l0_1.length : Int)
    · rw [if_pos (.inr h2)] at h
      obtain rfl := Option.some.inj h
      have d2 : decide ((l0_1.length : Int) < a1) = true := decide_eq_true h2
      clear h h1 h2
      gi_wp2
      obtain ⟨W, hW, hsz, b4, b5, b6, b7, b8, hb⟩ := five_blocks w (.cells #[.int .u64 a0_0, .slice A0_1 l0_1.length c0_1] 25 (0, 0)) (.cells #[.int .i64 a1] 3 (0, 0)) (.cells #[.int .i64 a2] 3 (0, 0)) (.cells #[.slice A3 l3.length c3] 23 (0, 0)) (.cells #[.bool false] 4 (0, 0))
      rw [hW]
      refine ⟨.bool false, ?_, rfl, hb⟩
      have hc8 : W.cell? ⟨w.heap.size + 1 + 1 + 1 + 1, 0, none⟩ = some (.bool false) := (blk_cell b8 0).trans rfl
      simp [results, Try.f15, go_sem, hc8]
    · rw [if_neg (by rintro (h | h) <;> contradiction)] at h
      have d2 : decide ((l0_1.length : Int) < a1) = false := decide_eq_false h2
      split at h
      · rename_i hl
        have HL := Aside0.mk hl
        have H := Aside0.mk (Option.some.inj h)
        have HW := Aside0.mk (And.intro h1 h2)
        clear hl h h1 h2
        gi_wp2_with (fail)
        obtain ⟨W, hW, hsz, b4, b5, b6, b7, b8, hb⟩ := five_blocks w (.cells #[.int .u64 a0_0, .slice A0_1 l0_1.length c0_1] 25 (0, 0)) (.cells #[.int .i64 a1] 3 (0, 0)) (.cells #[.int .i64 a2] 3 (0, 0)) (.cells #[.slice A3 l3.length c3] 23 (0, 0)) (.cells #[.bool false] 4 (0, 0))
        rw [hW]
        refine ⟨trivial, ?_⟩
        refine (callsIn_wide.2 (sets_calls a0_0 A0_1 l0_1.length c0_1 a1 W)).mono ?_
        rintro e W2 ⟨gf, gw, rfl, gef, gew, lf, lw, bf, bw, hb2⟩
        have B5 := Aside0.mk (blk_below b5 hb2)
        have B6 := Aside0.mk (blk_below b6 hb2)
        have B7 := Aside0.mk (blk_below b7 hb2)
        have B8 := Aside0.mk (blk_below b8 hb2)
        have HBB := Aside0.mk (below_step hb hb2)
        have BF := Aside0.mk bf
        have BW := Aside0.mk bw
        have LF := Aside0.mk lf
        have LW := Aside0.mk lw
        have hs2 : w.heap.size + 5 ≤ W2.heap.size := by have := hb2.size; omega
        have HS2 := Aside0.mk hs2
        clear hW b4 b5 b6 b7 b8 hb hb2 bf bw lf lw gef gew hsz hs2
        generalize hg5 : w.heap.size + 1 = g5 at B5 B6 B7 B8 ⊢
        generalize hg6 : g5 + 1 = g6 at B6 B7 B8 ⊢
        generalize hg7 : g6 + 1 = g7 at B7 B8 ⊢
        generalize hg8 : g7 + 1 = g8 at B8 ⊢
        have GG := Aside0.mk (And.intro hg5 (And.intro hg6 (And.intro hg7 hg8)))
        clear hg5 hg6 hg7 hg8
        obtain ⟨wn, hwn⟩ : ∃ n : Nat, a1 = n := ⟨a1.toNat, by have := HW.out.1; omega⟩
        subst hwn
        rw [Int.toNat_natCast] at H
        gi_wp2_with (fail)
        refine range_walk (gf := 54) (lb := #[.pointer (some ⟨gf, 0, none⟩), .pointer (some ⟨gw, 0, none⟩)]) rfl (fun args w => enters_ Try.func54 (by kernel_rfl) rfl args w)
          (encs := fun x : Option Addr × Nat × Nat => #[.slice x.1 x.2.1 x.2.2]) (Rx := fun k x W => x.2.1 = (fromL l0_1 k wn).length ∧ (fromL l0_1 k wn).length ≤ x.2.2 ∧ k32.C W x.1 (fromL l0_1 k wn).length (fromL l0_1 k wn)) (N := l0_1.length)
          (sets1_seq a0_0 A0_1 c0_1 l0_1 (wn : Int) (fun k => fromL l0_1 k wn) (fun k hk => ⟨wn + 1, from_ev l0_1 k wn (by omega) hlen (by have := HL.out; have := HW.out.2; omega) (by have := HL.out; have := HW.out.2; omega) _ (by omega)⟩) gf gw w W2 _ HBB.out.size BF.out BW.out HR0.out HC0.out HBB.out LF.out LW.out)
          (fun _ => rfl)
          (fun k W => ((∀ j, j < k → missB (fromL l0_1 j wn) wn a2 l3 = true) ∧ W.heap[g5]? = some (.cells #[.int .i64 wn] 3 (0, 0)) ∧ W.heap[g6]? = some (.cells #[.int .i64 a2] 3 (0, 0)) ∧ W.heap[g7]? = some (.cells #[.slice A3 l3.length c3] 23 (0, 0)) ∧ W.heap[g8]? = some (.cells #[.bool false] 4 (0, 0)) ∧ W2.heap.size ≤ W.heap.size) ∧ Below w.heap.size w W)
          (fun W => (r = false ∧ W.heap[g8]? = some (.cells #[.bool false] 4 (0, 0))) ∧ Below w.heap.size w W)
          (fun k => abide_and (abide_and abide_prop (abide_and abide_blk (abide_and abide_blk (abide_and abide_blk (abide_and abide_blk (fun W W' row h hg hr => Nat.le_trans h hg.size)))))) (abide_below (Nat.le_refl _) HBB.out.size))
          (abide_and (abide_and abide_prop abide_blk) (abide_below (Nat.le_refl _) HBB.out.size))
          (fun k W W' h hb => ⟨⟨h.1.1, blk_below h.1.2.1 hb, blk_below h.1.2.2.1 hb, blk_below h.1.2.2.2.1 hb, blk_below h.1.2.2.2.2.1 hb, Nat.le_trans h.1.2.2.2.2.2 hb.size⟩, below_step h.2 hb⟩)
          (fun k x => abide_and abide_prop (abide_and abide_prop (fun W W' row h hg hr => C_cells h (fun a v hc => cell_kept hc hg (fun r e => (hr r e).2)))))
          ⟨⟨fun j hj => absurd hj (by omega), B5.out, B6.out, B7.out, B8.out, Nat.le_refl _⟩, HBB.out⟩
          (fun x => { tmps := #[.agg #[.int .u64 a0_0, .slice A0_1 l0_1.length c0_1], .int .i64 wn, .int .i64 a2, .slice A3 l3.length c3, .pointer (some ⟨w.heap.size, 0, none⟩), .pointer (some ⟨g5, 0, none⟩), .pointer (some ⟨g6, 0, none⟩), .pointer (some ⟨g7, 0, none⟩), .pointer (some ⟨g8, 0, none⟩), .slice x.1 x.2.1 x.2.2, .int .i64 wn, .bool false, .bool false, .int .i64 wn, .pointer (some ⟨w.heap.size, 1, none⟩), .slice A0_1 l0_1.length c0_1, .int .i64 l0_1.length, .bool false, .bool false, .agg #[.int .u64 a0_0, .slice A0_1 l0_1.length c0_1], .int .i64 wn, .func (.func 54) #[] #[.pointer (some ⟨gf, 0, none⟩), .pointer (some ⟨gw, 0, none⟩)], .slice x.1 x.2.1 x.2.2, undef, undef, undef, undef, undef, undef], defers := [] }) ?assign ?body ?done ?stop
        case assign =>
          intro l x W K hK
          gi_wp2
          exact hK
        case body =>
          rintro l k ⟨A, n, c⟩ W ⟨⟨hm, c5, c6, c7, c8, hsz⟩, hb⟩ ⟨rfl, hle, hC⟩ hk
          dsimp only at hle hC ⊢
          have HM := Aside0.mk hm
          have C5 := Aside0.mk c5
          have C6 := Aside0.mk c6
          have C7 := Aside0.mk c7
          have C8 := Aside0.mk c8
          have HBW := Aside0.mk hb
          have HCW := Aside0.mk hC
          have HLE := Aside0.mk hle
          have e5 : W.cell? ⟨g5, 0, none⟩ = some (.int .i64 wn) := (blk_cell c5 0).trans rfl
          have e6 : W.cell? ⟨g6, 0, none⟩ = some (.int .i64 a2) := (blk_cell c6 0).trans rfl
          have e7 : W.cell? ⟨g7, 0, none⟩ = some (.slice A3 l3.length c3) := (blk_cell c7 0).trans rfl
          obtain ⟨m, hmm⟩ : ∃ m, m = missB (fromL l0_1 k wn) wn a2 l3 := ⟨_, rfl⟩
          have HMM := Aside0.mk (missing_ev (fromL l0_1 k wn) wn a2 l3 (by rw [fromL_length]; have := HL.out; have := HW.out.2; omega) HR3.out.2.1 _ (Nat.lt_succ_self _))
          rw [← hmm] at HMM
          have HMQ := Aside0.mk hmm
          clear hm c5 c6 c7 c8 hb hC hle hmm
          have HSZ := Aside0.mk hsz
          clear hsz
          cases m with
          | true =>
            gi_wp2_with (refine ⟨trivial, ?_⟩; gi_at_call 19; refine (CallsIn.inRound l (callsIn_wide.2 (stripe_Missing.calls _ A c (fromL l0_1 k wn) wn a2 A3 c3 l3 true W HCW.out HLE.out (Kd.C_below HR3.out HBW.out) HC3.out HMM.out))).mono ?_; rintro e W3 ⟨rfl, hb3⟩; have HB3 := Aside0.mk hb3; clear hb3 e5 e6 e7)
            exact ⟨⟨HB3.out.size, fun q o hq _ => (HB3.out.block q (blk_lt hq)).trans hq⟩, HB3.out.mono HSZ.out, ⟨fun j hj => by
              by_cases e : j = k
              · subst e; exact HMQ.out.symm
              · exact HM.out j (by omega), blk_below C5.out HB3.out, blk_below C6.out HB3.out, blk_below C7.out HB3.out, blk_below C8.out HB3.out, Nat.le_trans HSZ.out HB3.out.size⟩, below_step HBW.out HB3.out⟩
          | false =>
            gi_wp2_with (refine ⟨trivial, ?_⟩; gi_at_call 19; refine (CallsIn.inRound l (callsIn_wide.2 (stripe_Missing.calls _ A c (fromL l0_1 k wn) wn a2 A3 c3 l3 false W HCW.out HLE.out (Kd.C_below HR3.out HBW.out) HC3.out HMM.out))).mono ?_; rintro e W3 ⟨rfl, hb3⟩; have HB3 := Aside0.mk hb3; have e8 : W3.cell? ⟨g8, 0, none⟩ = some (.bool false) := (blk_cell (blk_below C8.out hb3) 0).trans rfl; have f8 := blk_frozen (blk_below C8.out hb3) 0; clear hb3 e5 e6 e7)
            have hr : r = false := by
              rw [← H.out]
              rw [List.all_eq_false]
              exact ⟨k, List.mem_range.2 hk, by rw [← HMQ.out]; simp⟩
            exact ⟨KeepsOthers.trans ⟨HB3.out.size, fun q o hq _ => (HB3.out.block q (blk_lt hq)).trans hq⟩ (KeepsOthers.setCell _ _ _), ⟨hr, blk_put (blk_below C8.out HB3.out) 0 _ rfl⟩, below_set (below_step HBW.out HB3.out) (by have := GG.out; omega)⟩
        case done =>
          rintro D W hD ⟨⟨hm, c5, c6, c7, c8, hsz⟩, hb⟩ hK
          have hr : r = true := by
            rw [← H.out, List.all_eq_true]
            exact fun j hj => hm j (List.mem_range.1 hj)
          have C8 := Aside0.mk c8
          have HBW := Aside0.mk hb
          have HK := Aside0.mk hK
          have HRR := Aside0.mk hr
          have HD := Aside0.mk hD
          have e8 : W.cell? ⟨g8, 0, none⟩ = some (.bool false) := (blk_cell c8 0).trans rfl
          have f8 := blk_frozen c8 0
          clear hm c5 c6 c7 c8 hsz hb hK hr hD
          gi_wp2
          have hK' := (KeepsOthers.setCell W ⟨g8, 0, none⟩ (.bool true)).same D _ HK.out rfl
          refine ⟨by simp, .inl ⟨_, _, rfl, run_takeDeferred hK', ?_⟩⟩
          have hc5 := cell_kept ((blk_cell (blk_put C8.out 0 (.bool true) rfl) 0).trans rfl : (W.setCell ⟨g8, 0, none⟩ (.bool true)).cell? ⟨g8, 0, none⟩ = some (.bool true)) (grownBy_putObj' _ D (.deferred none)) (fun r e => by cases e; exact ⟨_, hK', rfl⟩)
          refine ⟨.bool true, ?_, by rw [HRR.out], (below_set HBW.out (by have := GG.out; omega)).trans (belowK_b (w := w) (Nat.le_refl _) _ D _ _ (by have := HD.out; have := HBB.out.size; omega) hK' rfl rfl)⟩
          simp [results, Try.f15, go_sem, hc5]
        case stop =>
          rintro D W hD ⟨⟨hr, c8⟩, hb⟩ hK
          have C8 := Aside0.mk c8
          have HBW := Aside0.mk hb
          have HK := Aside0.mk hK
          have HRR := Aside0.mk hr
          have HD := Aside0.mk hD
          clear c8 hb hK hr hD
          gi_wp2
          refine ⟨by simp, .inl ⟨_, _, rfl, run_takeDeferred HK.out, ?_⟩⟩
          have hc5 := cell_kept ((blk_cell C8.out 0).trans rfl : W.cell? ⟨g8, 0, none⟩ = some (.bool false)) (grownBy_putObj' _ D (.deferred none)) (fun r e => by cases e; exact ⟨_, HK.out, rfl⟩)
          refine ⟨.bool false, ?_, by rw [HRR.out], HBW.out.trans (belowK_b (w := w) (Nat.le_refl _) _ D _ _ (by have := HD.out; have := HBB.out.size; omega) HK.out rfl rfl)⟩
          simp [results, Try.f15, go_sem, hc5]
      · exact absurd h (by simp)
end Go.Proofs.Ytipjnfljkknmgaa.Q
namespace Go.Proofs.Ytipjnfljkknmgaa.Q
open Go.RowKit Go.Proofs.YtipjnfljkknmgaaW.PrintWords Go.Proofs.YtipjnfljkknmgaaW.PrintLast Go.Proofs.YtipjnfljkknmgaaW.PrintMore
attribute [local go_sem] max2_int min2_int max_two min_two max_three min_three max_four min_four   -- for this text's walks alone
set_option linter.unusedVariables false
set_option linter.unusedSimpArgs false
def slices_Index_int_int.l0 : Nat → List Int → Int → Int → Int → Option (Int)
  | 0, _, _, _, _ => none
  | k + 1, x0, x1, x7, x8 => if x8 < x7 then (if 0 ≤ x8 then (if x8 < (x0.length : Int) then (if x1 = (rd x0 x8) then (some x8) else (slices_Index_int_int.l0 k x0 x1 x7 (wrap64 (x8 + 1)))) else (none)) else (none)) else (some (-1))
def slices_Index_int_int.f (k : Nat) (l0 : List Int) (a1 : Int) : Option (Int) := slices_Index_int_int.l0 k l0 a1 (l0.length : Int) 0
set_option maxHeartbeats 8000000 in
set_option maxRecDepth 100000 in
theorem slices_Index_int_int.calls (k : Nat) (A0 : Option Addr) (c0 : Nat) (l0 : List Int) (a1 : Int) (r : Int) (w : World) (hr0 : Kd.C (Kd.int .i64) w A0 l0.length l0) (hc0 : l0.length ≤ c0) (h : slices_Index_int_int.f k l0 a1 = some r) :
    Calls Try.prog 57 #[.slice A0 l0.length c0, .int .i64 a1] w fun e w' => e = .returned (.int .i64 r) ∧ Drawn0 w w' := by
  have HR0 := Aside0.mk hr0
  have HC0 := Aside0.mk hc0
  clear hr0 hc0
  have H : (slices_Index_int_int.l0 k l0 a1 (l0.length : Int) 0) = some r := h
  clear h
  have H' := Aside0.mk H
  clear H
  go_enter Try.func57, Try.ntmps57
  go_wp2
  go_loopg [8] k (fun kq v8 w' => ∃ (x8_1 : Int), v8 = .int .i64 x8_1 ∧ Aside0 (slices_Index_int_int.l0 kq l0 a1 (l0.length : Int) x8_1 = some r) ∧ Aside0 (kq ≤ k) ∧ Drawn0 w w')
  case atStart => exact ⟨(0), (by first | rfl | (simp; done) | (simp [*]; done)), H', ⟨Nat.le_refl _⟩, by repeat (first | exact Drawn0.refl _ | apply Drawn0.step)⟩
  case round =>
    clear H'
    try clear p2
    obtain ⟨x8_1, rfl, HA, HK1, ⟨m1, rfl⟩⟩ := hrel
    cases gk with
    | zero => exact absurd HA.out (by simp [slices_Index_int_int.l0])
    | succ k1 =>
      have H := HA.out
      clear HA
      simp only [slices_Index_int_int.l0] at H
      by_cases c3 : x8_1 < (l0.length : Int)
      · rw [if_pos c3] at H
        have c3b0 : decide (x8_1 < (l0.length : Int)) = true := decide_eq_true c3
        clear c3
        by_cases c4 : 0 ≤ x8_1
        · rw [if_pos c4] at H
          have c4b0 : decide (0 ≤ x8_1) = true := decide_eq_true c4
          clear c4
          by_cases c5 : x8_1 < (l0.length : Int)
          · rw [if_pos c5] at H
            have c5b0 : decide (x8_1 < (l0.length : Int)) = true := decide_eq_true c5
            clear c5
            by_cases c6 : a1 = (rd l0 x8_1)
            · rw [if_pos c6] at H
              have c6b0 : (a1 == (rd l0 x8_1)) = true := beq_iff_eq.mpr c6
              have c6b1 : (a1 != (rd l0 x8_1)) = false := bne_eq_false_iff_eq.mpr c6
              clear c6
              obtain rfl := Option.some.inj H
              have p140 : 0 ≤ (x8_1 : Int) := of_decide_eq_true (by first | (with_reducible assumption) | assumption)
              have q140 : x8_1 < (l0.length : Int) := of_decide_eq_true (by first | (with_reducible assumption) | assumption)
              obtain ⟨ad140, e140, hx140_0⟩ := Kd.at_int HR0.out x8_1 p140 q140
              cases e140
              replace p140 := eq_true p140
              replace q140 := eq_true q140
              go_wp2
              go_ret
              exact ⟨by first | rfl | (simp; done) | (simp [*]; done), by repeat (first | exact Drawn0.refl _ | apply Drawn0.step)⟩
            · rw [if_neg c6] at H
              have c6b0 : (a1 == (rd l0 x8_1)) = false := beq_eq_false_iff_ne.mpr c6
              have c6b1 : (a1 != (rd l0 x8_1)) = true := bne_iff_ne.mpr c6
              have H' := Aside0.mk H
              clear H
              have p140 : 0 ≤ (x8_1 : Int) := of_decide_eq_true (by first | (with_reducible assumption) | assumption)
              have q140 : x8_1 < (l0.length : Int) := of_decide_eq_true (by first | (with_reducible assumption) | assumption)
              obtain ⟨ad140, e140, hx140_0⟩ := Kd.at_int HR0.out x8_1 p140 q140
              cases e140
              replace p140 := eq_true p140
              replace q140 := eq_true q140
              go_wp2
              go_roundg k1
              case measure => have := HK1.out; omega
              case rel => exact ⟨(wrap64 (x8_1 + 1)), (by first | rfl | (simp; done) | (simp [*]; done)), H', ⟨by have := HK1.out; omega⟩, by repeat (first | exact Drawn0.refl _ | apply Drawn0.step)⟩
          · rw [if_neg c5] at H
            exact absurd H (by simp)
        · rw [if_neg c4] at H
          exact absurd H (by simp)
      · rw [if_neg c3] at H
        have c3b0 : decide (x8_1 < (l0.length : Int)) = false := decide_eq_false c3
        clear c3
        obtain rfl := Option.some.inj H
        go_wp2
        go_ret
        exact ⟨by first | rfl | (simp; done) | (simp [*]; done), by repeat (first | exact Drawn0.refl _ | apply Drawn0.step)⟩
end Go.Proofs.Ytipjnfljkknmgaa.Q
namespace Go.Proofs.Ytipjnfljkknmgaa.Q
open Go.RowKit Go.Proofs.YtipjnfljkknmgaaW.PrintWords Go.Proofs.YtipjnfljkknmgaaW.PrintLast Go.Proofs.YtipjnfljkknmgaaW.PrintMore
attribute [local go_sem] max2_int min2_int max_two min_two max_three min_three max_four min_four   -- for this text's walks alone
set_option linter.unusedVariables false
set_option linter.unusedSimpArgs false
def slices_Contains_int_int.f (k : Nat) (l0 : List Int) (a1 : Int) : Option (Bool) := (slices_Index_int_int.f k l0 a1).bind fun t141 => (some (decide (t141 ≥ 0)))
set_option maxHeartbeats 8000000 in
set_option maxRecDepth 100000 in
theorem slices_Contains_int_int.calls (k : Nat) (A0 : Option Addr) (c0 : Nat) (l0 : List Int) (a1 : Int) (r : Bool) (w : World) (hr0 : Kd.C (Kd.int .i64) w A0 l0.length l0) (hc0 : l0.length ≤ c0) (h : slices_Contains_int_int.f k l0 a1 = some r) :
    Calls Try.prog 42 #[.slice A0 l0.length c0, .int .i64 a1] w fun e w' => e = .returned (.bool r) ∧ Drawn0 w w' := by
  have HR0 := Aside0.mk hr0
  have HC0 := Aside0.mk hc0
  clear hr0 hc0
  have H : ((slices_Index_int_int.f k l0 a1).bind fun t141 => (some (decide (t141 ≥ 0)))) = some r := h
  clear h
  replace H := Option.bind_eq_some_iff.mp H
  obtain ⟨t141, A30, H⟩ := H
  replace H : (some (decide (t141 ≥ 0))) = some r := H
  have A3 := Aside0.mk A30
  clear A30
  obtain rfl := Option.some.inj H
  go_enter Try.func42, Try.ntmps42
  go_wp2_with (first | ((with_reducible refine gate_callee (f := 57) rfl ?_); refine goesL_ (some 7) rfl rfl Try.func57 (by kernel_rfl) rfl #[.slice A0 l0.length c0, .int .i64 a1] rfl (by (try simp only [List.map_toArray, List.map_cons, List.map_nil]); first | done | rfl | (simp only [List.length_drop, List.length_take]; rfl)) ?_; (with_reducible refine (slices_Index_int_int.calls k _ _ l0 a1 t141 _ ?side1 ?side2 A3.out).mono ?_); (case side1 => repeat (first | exact HR0.out | (with_reducible refine Kd.C_alloc ?_ _) | (with_reducible refine Kd.C_drewN ?_ _) | (with_reducible refine Kd.C_drew ?_))); (case side2 => exact HC0.out); rintro e w' ⟨rfl, ⟨nd, rfl⟩⟩; refine ⟨_, rfl, ?_⟩))
  go_ret
  exact ⟨by first | rfl | (simp; done) | (simp [*]; done), by repeat (first | exact Drawn0.refl _ | apply Drawn0.step)⟩
end Go.Proofs.Ytipjnfljkknmgaa.Q
