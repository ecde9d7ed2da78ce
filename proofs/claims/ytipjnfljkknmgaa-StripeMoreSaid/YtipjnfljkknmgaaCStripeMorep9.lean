/- Part 9 of the proof of the row StripeMore: written for this claim by the session and by a program of its own. -/
import Derived.Test.YtipjnfljkknmgaaCStripeMorep1
import Derived.Test.YtipjnfljkknmgaaCStripeMorep8
import Derived.Test.YtipjnfljkknmgaaCStripeMorep7
import Derived.Test.YtipjnfljkknmgaaCStripeMorep2
import Derived.Test.YtipjnfljkknmgaaCStripeMorep5
import Derived.Test.YtipjnfljkknmgaaCStripeMorep4
namespace Go.Proofs.Ytipjnfljkknmgaa.Q
open Go.RowKit Go.Proofs.YtipjnfljkknmgaaW.PrintWords Go.Proofs.YtipjnfljkknmgaaW.PrintLast Go.Proofs.YtipjnfljkknmgaaW.PrintMore
attribute [local go_sem] max2_int min2_int max_two min_two max_three min_three max_four min_four   -- for this text's walks alone
set_option linter.unusedVariables false
set_option linter.unusedSimpArgs false
mutual
def scrivenerref14_Set.j0 : Nat → List (S25) → Int → Int → Int → Bool → Option ((List (S32)))
  | 0, _, _, _, _, _ => none
  | k + 1, x0, x1, x2, x7, x29 => if x29 = true then (some ([] : List (S32))) else (if 0 ≤ x7 then (if x7 < (x0.length : Int) then (if (IntKind.u64.wrap ((((rd_T25 x0 x7).f1).length : Int))) = 0 then (none) else (scrivenerref14_Set.l0 k x1 ([] : List (S32)) ((rd_T25 x0 x7).f1) (wrap64 (Int.tmod (IntKind.u64.wrap (x2 - ((rd_T25 x0 x7).f0))) (IntKind.u64.wrap ((((rd_T25 x0 x7).f1).length : Int))))))) else (none)) else (none))
def scrivenerref14_Set.l0 : Nat → Int → List (S32) → List (S32) → Int → Option ((List (S32)))
  | 0, _, _, _, _ => none
  | k + 1, x1, x8, x9, x10 => if (x8.length : Int) < x1 then (if 0 ≤ x10 then (if x10 < (x9.length : Int) then (if x8.length < 8796093022208 then ((some (x8 ++ [(⟨(rd_T32 x9 x10).f0, (rd_T32 x9 x10).f1⟩ : S32)] : List (S32))).bind fun y209 => (if (wrap64 (x10 + 1)) = (x9.length : Int) then (scrivenerref14_Set.l0 k x1 y209 x9 0) else (scrivenerref14_Set.l0 k x1 y209 x9 (wrap64 (x10 + 1))))) else (none)) else (none)) else (none)) else (some x8)
end
def scrivenerref14_Set.f (k : Nat) (l0 : List (S25)) (a1 : Int) (a2 : Int) : Option ((List (S32))) := (scrivenerref14_Frag.f k l0 a2).bind fun t204 => (if t204 < 0 then (scrivenerref14_Set.j0 k l0 a1 a2 t204 true) else (if a1 < 1 then (scrivenerref14_Set.j0 k l0 a1 a2 t204 true) else (if 0 ≤ t204 then (if t204 < (l0.length : Int) then (scrivenerref14_Set.j0 k l0 a1 a2 t204 (decide (a1 > (((rd_T25 l0 t204).f1).length : Int)))) else (none)) else (none))))
set_option maxHeartbeats 8000000 in
set_option maxRecDepth 100000 in
theorem scrivenerref14_Set.calls (k : Nat) (A0 : Option Addr) (c0 : Nat) (l0 : List (S25)) (a1 : Int) (a2 : Int) (r : List (S32)) (w : World) (hr0 : Kd.C k25 w A0 l0.length l0) (hc0 : l0.length ≤ c0) (h : scrivenerref14_Set.f k l0 a1 a2 = some r) :
    Calls Try.prog 39 #[.slice A0 l0.length c0, .int .i64 a1, .int .u64 a2] w fun e w' => ∃ v0_ : Value, e = .returned (v0_) ∧ Kd.R k32 32 w' w.heap.size (fun _ => True) v0_ r ∧ Below w.heap.size w w' := by
  have hu32 := Try.underlying32
  have HR0 := Aside0.mk hr0
  have HC0 := Aside0.mk hc0
  clear hr0 hc0
  have HB := Aside0.mk (Below.refl w.heap.size w)
  have H : ((scrivenerref14_Frag.f k l0 a2).bind fun t204 => (if t204 < 0 then (scrivenerref14_Set.j0 k l0 a1 a2 t204 true) else (if a1 < 1 then (scrivenerref14_Set.j0 k l0 a1 a2 t204 true) else (if 0 ≤ t204 then (if t204 < (l0.length : Int) then (scrivenerref14_Set.j0 k l0 a1 a2 t204 (decide (a1 > (((rd_T25 l0 t204).f1).length : Int)))) else (none)) else (none))))) = some r := h
  clear h
  replace H := Option.bind_eq_some_iff.mp H
  obtain ⟨t204, A40, H⟩ := H
  replace H : (if t204 < 0 then (scrivenerref14_Set.j0 k l0 a1 a2 t204 true) else (if a1 < 1 then (scrivenerref14_Set.j0 k l0 a1 a2 t204 true) else (if 0 ≤ t204 then (if t204 < (l0.length : Int) then (scrivenerref14_Set.j0 k l0 a1 a2 t204 (decide (a1 > (((rd_T25 l0 t204).f1).length : Int)))) else (none)) else (none)))) = some r := H
  have A4 := Aside0.mk A40
  clear A40
  have HC5 := Aside0.mk H
  clear H
  go_enter Try.func39, Try.ntmps39
  go_upto_region 2 with (first | ((with_reducible refine gate_callee (f := 55) rfl ?_); refine goesL_ (some 13) rfl rfl Try.func55 (by kernel_rfl) rfl #[.slice A0 l0.length c0, .int .u64 a2] rfl (by (try simp only [List.map_toArray, List.map_cons, List.map_nil]); first | done | rfl | (simp only [List.length_drop, List.length_take]; rfl)) ?_; (with_reducible refine (scrivenerref14_Frag.calls k _ _ l0 a2 t204 _ ?side1 ?side2 A4.out).mono ?_); (case side1 => repeat (first | exact HR0.out | (with_reducible refine Kd.C_alloc ?_ _) | (with_reducible refine Kd.C_drewN ?_ _) | (with_reducible refine Kd.C_drew ?_))); (case side2 => exact HC0.out); rintro e w' ⟨rfl, ⟨nd, rfl⟩⟩; refine ⟨_, rfl, ?_⟩))
  (try simp only [Act.put, List.setIfInBounds_toArray, List.set_cons_zero, List.set_cons_succ])
  go_cut [29] (fun v29 wc => ∃ (kq : Nat) (x29_4 : Bool), v29 = .bool x29_4 ∧ Aside0 (scrivenerref14_Set.j0 kq l0 a1 a2 t204 x29_4 = some r) ∧ Aside0 (kq ≤ k) ∧ Aside0 (Below w.heap.size w wc))
  case first =>
    have H := HC5.out
    clear HC5
    by_cases c6 : t204 < 0
    · rw [if_pos c6] at H
      have c6b0 : decide (t204 < 0) = true := decide_eq_true c6
      clear c6
      (first | rw [c6b0] | (simp only [i64_w, i32_w]; rw [c6b0]) | skip)
      have H' := Aside0.mk H
      clear H
      go_wp2
      go_meet
      case rel => exact ⟨_, (true), (by first | rfl | (simp; done) | (simp [*]; done)), H', ⟨by first | omega | exact Nat.le_refl _⟩, ⟨by repeat (first | (with_reducible first | exact HB.out | apply below_alloc | apply pw_below_drewN | apply below_drew1) | exact HB.out)⟩⟩
    · rw [if_neg c6] at H
      have c6b0 : decide (t204 < 0) = false := decide_eq_false c6
      clear c6
      (first | rw [c6b0] | (simp only [i64_w, i32_w]; rw [c6b0]) | skip)
      by_cases c7 : a1 < 1
      · rw [if_pos c7] at H
        have c7b0 : decide (a1 < 1) = true := decide_eq_true c7
        clear c7
        have H' := Aside0.mk H
        clear H
        go_wp2
        go_meet
        case rel => exact ⟨_, (true), (by first | rfl | (simp; done) | (simp [*]; done)), H', ⟨by first | omega | exact Nat.le_refl _⟩, ⟨by repeat (first | (with_reducible first | exact HB.out | apply below_alloc | apply pw_below_drewN | apply below_drew1) | exact HB.out)⟩⟩
      · rw [if_neg c7] at H
        have c7b0 : decide (a1 < 1) = false := decide_eq_false c7
        clear c7
        by_cases c8 : 0 ≤ t204
        · rw [if_pos c8] at H
          have c8b0 : decide (0 ≤ t204) = true := decide_eq_true c8
          clear c8
          by_cases c9 : t204 < (l0.length : Int)
          · rw [if_pos c9] at H
            have c9b0 : decide (t204 < (l0.length : Int)) = true := decide_eq_true c9
            clear c9
            have H' := Aside0.mk H
            clear H
            have p205 : 0 ≤ (t204 : Int) := of_decide_eq_true (by first | (with_reducible assumption) | assumption)
            have q205 : t204 < (l0.length : Int) := of_decide_eq_true (by first | (with_reducible assumption) | assumption)
            obtain ⟨ad205, A205_1, c205_1, e205, hx205_0, hx205_1, hl205_1, hi205_1⟩ := at_T25 HR0.out t204 p205 q205
            cases e205
            replace hx205_0 := (HB.out.cell (World.block_lt_of_cell? w _ hx205_0)).trans hx205_0
            replace hx205_1 := (HB.out.cell (World.block_lt_of_cell? w _ hx205_1)).trans hx205_1
            have HR205_1 := Aside0.mk hi205_1
            have HC205_1 := Aside0.mk hl205_1
            clear hi205_1 hl205_1
            replace p205 := eq_true p205
            replace q205 := eq_true q205
            go_wp2
            go_meet
            case rel => exact ⟨_, (decide (a1 > (((rd_T25 l0 t204).f1).length : Int))), (by first | rfl | (simp; done) | (simp [*]; done)), H', ⟨by first | omega | exact Nat.le_refl _⟩, ⟨by repeat (first | (with_reducible first | exact HB.out | apply below_alloc | apply pw_below_drewN | apply below_drew1) | exact HB.out)⟩⟩
          · rw [if_neg c9] at H
            exact absurd H (by simp)
        · rw [if_neg c8] at H
          exact absurd H (by simp)
  case rest =>
    clear HC5
    try clear c2
    try clear p2
    try clear q2
    try clear hx2
    try clear c3
    try clear c5
    try clear c6
    try clear c6b0
    try clear c7
    try clear c7b0
    try clear c8
    try clear c8b0
    try clear c9
    try clear c9b0
    try clear hx205_0
    try clear hx205_1
    try clear p205
    try clear q205
    obtain ⟨kq, x29_4, rfl, HA, HJ4, HB⟩ := hcut
    cases kq with
    | zero => exact absurd HA.out (by simp [scrivenerref14_Set.j0])
    | succ kj4 =>
      have H := HA.out
      clear HA
      simp only [scrivenerref14_Set.j0] at H
      by_cases c10 : x29_4 = true
      · subst c10
        rw [if_pos rfl] at H
        obtain rfl := Option.some.inj H
        go_wp2
        go_ret
        exact ⟨_, by first | rfl | (simp [errW_none, errW_some] <;> rfl) | (simp [*, errW_none, errW_some] <;> rfl), by first | exact Kd.R_nil _ _ _ _ _ | exact Kd.N_nil _ _ _ _ _ | exact Kd.V_nil _ _ _ _ _ | exact Kd.Q_nil _ _ _ _ _ | exact Kd.S_nil _ _ _ _ _, by repeat (first | (with_reducible first | exact HB.out | apply below_alloc | apply pw_below_drewN | apply below_drew1) | exact HB.out)⟩
      · replace c10 := Bool.eq_false_iff.mpr c10
        subst c10
        rw [if_neg (show ¬ (false = true) by decide)] at H
        by_cases c11 : 0 ≤ t204
        · rw [if_pos c11] at H
          have c11b0 : decide (0 ≤ t204) = true := decide_eq_true c11
          clear c11
          by_cases c12 : t204 < (l0.length : Int)
          · rw [if_pos c12] at H
            have c12b0 : decide (t204 < (l0.length : Int)) = true := decide_eq_true c12
            clear c12
            by_cases c13 : (IntKind.u64.wrap ((((rd_T25 l0 t204).f1).length : Int))) = 0
            · rw [if_pos c13] at H
              exact absurd H (by simp)
            · rw [if_neg c13] at H
              have c13b0 : ((IntKind.u64.wrap ((((rd_T25 l0 t204).f1).length : Int))) == 0) = false := beq_eq_false_iff_ne.mpr c13
              have c13b1 : ((IntKind.u64.wrap ((((rd_T25 l0 t204).f1).length : Int))) != 0) = true := bne_iff_ne.mpr c13
              have H' := Aside0.mk H
              clear H
              have p206 : 0 ≤ (t204 : Int) := of_decide_eq_true (by first | (with_reducible assumption) | assumption)
              have q206 : t204 < (l0.length : Int) := of_decide_eq_true (by first | (with_reducible assumption) | assumption)
              obtain ⟨ad206, A206_1, c206_1, e206, hx206_0, hx206_1, hl206_1, hi206_1⟩ := at_T25 HR0.out t204 p206 q206
              cases e206
              replace hx206_0 := (HB.out.cell (World.block_lt_of_cell? w _ hx206_0)).trans hx206_0
              replace hx206_1 := (HB.out.cell (World.block_lt_of_cell? w _ hx206_1)).trans hx206_1
              have HR206_1 := Aside0.mk hi206_1
              have HC206_1 := Aside0.mk hl206_1
              clear hi206_1 hl206_1
              replace p206 := eq_true p206
              replace q206 := eq_true q206
              have p207 : 0 ≤ (t204 : Int) := of_decide_eq_true (by first | (with_reducible assumption) | assumption)
              have q207 : t204 < (l0.length : Int) := of_decide_eq_true (by first | (with_reducible assumption) | assumption)
              obtain ⟨ad207, A207_1, c207_1, e207, hx207_0, hx207_1, hl207_1, hi207_1⟩ := at_T25 HR0.out t204 p207 q207
              obtain rfl : ad206 = ad207 := (by injection e207)
              replace hx207_0 := (HB.out.cell (World.block_lt_of_cell? w _ hx207_0)).trans hx207_0
              replace hx207_1 := (HB.out.cell (World.block_lt_of_cell? w _ hx207_1)).trans hx207_1
              have HR207_1 := Aside0.mk hi207_1
              have HC207_1 := Aside0.mk hl207_1
              clear hi207_1 hl207_1
              replace p207 := eq_true p207
              replace q207 := eq_true q207
              have ea_ := Option.some.inj (hx206_1.symm.trans hx207_1)
              injection ea_ with ea_ en_ ec_
              subst ea_
              subst ec_
              clear en_
              go_wp2
              go_loopg [8, 10] kj4 (fun kq v8 v10 w' => ∃ (x8_2 : List (S32)) (x10_2 : Int), v10 = .int .i64 x10_2 ∧ Aside0 (scrivenerref14_Set.l0 kq a1 x8_2 ((rd_T25 l0 t204).f1) x10_2 = some r) ∧ Aside0 (kq ≤ kj4) ∧ Aside0 (Kd.R k32 32 w' w.heap.size (fun _ => True) v8 x8_2) ∧ Aside0 (Below w.heap.size w w'))
              case atStart => exact ⟨(([] : List (S32))), (wrap64 (Int.tmod (IntKind.u64.wrap (a2 - ((rd_T25 l0 t204).f0))) (IntKind.u64.wrap ((((rd_T25 l0 t204).f1).length : Int))))), (by first | rfl | (simp; done) | (simp [*]; done)), H', ⟨Nat.le_refl _⟩, ⟨by first | exact Kd.R_nil _ _ _ _ _ | exact Kd.N_nil _ _ _ _ _ | exact Kd.V_nil _ _ _ _ _ | exact Kd.Q_nil _ _ _ _ _ | exact Kd.S_nil _ _ _ _ _⟩, ⟨by repeat (first | (with_reducible first | exact HB.out | apply below_alloc | apply pw_below_drewN | apply below_drew1) | exact HB.out)⟩⟩
              case round =>
                clear H'
                try clear c1
                try clear c2
                try clear p2
                try clear q2
                try clear hx2
                try clear c3
                try clear c5
                try clear c6
                try clear c6b0
                try clear p6
                try clear c7
                try clear c7b0
                try clear c8
                try clear c8b0
                try clear c9
                try clear c9b0
                try clear c10
                try clear c11
                try clear c11b0
                try clear c12
                try clear c12b0
                try clear c13
                try clear c13b0
                try clear c13b1
                try clear hx205_0
                try clear hx205_1
                try clear hx206_0
                try clear hx206_1
                try clear hx207_0
                try clear hx207_1
                try clear p2
                try clear p205
                try clear p206
                try clear p207
                try clear q2
                try clear q205
                try clear q206
                try clear q207
                obtain ⟨x8_2, x10_2, rfl, HA, HK2, HO_8, HB⟩ := hrel
                cases gk with
                | zero => exact absurd HA.out (by simp [scrivenerref14_Set.l0])
                | succ k2 =>
                  have H := HA.out
                  clear HA
                  simp only [scrivenerref14_Set.l0] at H
                  by_cases c14 : (x8_2.length : Int) < a1
                  · rw [if_pos c14] at H
                    have c14b0 : decide ((x8_2.length : Int) < a1) = true := decide_eq_true c14
                    clear c14
                    by_cases c15 : 0 ≤ x10_2
                    · rw [if_pos c15] at H
                      have c15b0 : decide (0 ≤ x10_2) = true := decide_eq_true c15
                      clear c15
                      by_cases c16 : x10_2 < (((rd_T25 l0 t204).f1).length : Int)
                      · rw [if_pos c16] at H
                        have c16b0 : decide (x10_2 < (((rd_T25 l0 t204).f1).length : Int)) = true := decide_eq_true c16
                        clear c16
                        by_cases c17 : x8_2.length < 8796093022208
                        · rw [if_pos c17] at H
                          have LMc17 := Aside0.mk c17
                          clear c17
                          obtain ⟨y209, hy209⟩ : ∃ y_ : List (S32), y_ = (x8_2 ++ [(⟨(rd_T32 ((rd_T25 l0 t204).f1) x10_2).f0, (rd_T32 ((rd_T25 l0 t204).f1) x10_2).f1⟩ : S32)]) := ⟨_, rfl⟩
                          replace H : (if (wrap64 (x10_2 + 1)) = (((rd_T25 l0 t204).f1).length : Int) then (scrivenerref14_Set.l0 k2 a1 y209 ((rd_T25 l0 t204).f1) 0) else (scrivenerref14_Set.l0 k2 a1 y209 ((rd_T25 l0 t204).f1) (wrap64 (x10_2 + 1)))) = some r := by first | (rw [hy209]; with_reducible exact H) | (have H2_ := (Option.bind_some _ _).symm.trans H; rw [hy209]; with_reducible exact H2_) | (have H2_ := (Option.bind_some _ _).symm.trans H; with_reducible exact H2_) | with_reducible exact H | (rw [hy209]; exact H) | exact H
                          have Ny209 := Aside0.mk hy209
                          clear hy209
                          by_cases c18 : (wrap64 (x10_2 + 1)) = (((rd_T25 l0 t204).f1).length : Int)
                          · rw [if_pos c18] at H
                            have c18b0 : ((wrap64 (x10_2 + 1)) == (((rd_T25 l0 t204).f1).length : Int)) = true := beq_iff_eq.mpr c18
                            have c18b1 : ((wrap64 (x10_2 + 1)) != (((rd_T25 l0 t204).f1).length : Int)) = false := bne_eq_false_iff_eq.mpr c18
                            clear c18
                            have H' := Aside0.mk H
                            clear H
                            obtain ⟨Ao19, co19, eo19⟩ := Kd.R_slice HO_8.out
                            subst eo19
                            have p208 : 0 ≤ (x10_2 : Int) := of_decide_eq_true (by first | (with_reducible assumption) | assumption)
                            have q208 : x10_2 < (((rd_T25 l0 t204).f1).length : Int) := of_decide_eq_true (by first | (with_reducible assumption) | assumption)
                            obtain ⟨ad208, e208, hx208_0, hx208_1⟩ := at_T32 HR206_1.out x10_2 p208 q208
                            cases e208
                            replace hx208_0 := (HB.out.cell (World.block_lt_of_cell? w _ hx208_0)).trans hx208_0
                            replace hx208_1 := (HB.out.cell (World.block_lt_of_cell? w _ hx208_1)).trans hx208_1
                            replace p208 := eq_true p208
                            replace q208 := eq_true q208
                            go_wp2_with (first | ((with_reducible refine gate_builtin (b := .append) (xs := #[.tmp 51, .tmp 56]) rfl ?_); (try (refine gate_guard (by rfl) ?_; dsimp only)); at_builtin; refine Kd.R_append k32 (w0 := w) w.heap.size rfl (.tmp 51) (.tmp 56) 23 32 (.agg #[(.int .i64 0), (.int .u64 0)]) 16 rfl Try.underlying23 info32 rfl (by decide) (by omega) (.slice Ao19 x8_2.length co19) x8_2 (⟨(rd_T32 ((rd_T25 l0 t204).f1) x10_2).f0, (rd_T32 ((rd_T25 l0 t204).f1) x10_2).f1⟩ : S32) [.int .i64 ((rd_T32 ((rd_T25 l0 t204).f1) x10_2).f0), .int .u64 ((rd_T32 ((rd_T25 l0 t204).f1) x10_2).f1)] (fun _ => True) (fun _ => False) rfl rfl ?aP (fun _ hk => hk.elim) ?aF ?aO ?aB ?aS ?aL ?_; (case aP => exact k32_mkM _ _ _ (⟨(rd_T32 ((rd_T25 l0 t204).f1) x10_2).f0, (rd_T32 ((rd_T25 l0 t204).f1) x10_2).f1⟩ : S32)); (case aB => exact (Hb HB.out)); (case aF => exact (fun _ _ => trivial)); (case aO => exact (Rb HO_8.out)); (case aS => exact (below_size (Hb HB.out))); (case aL => have := LMc17.out; omega); intro v210 w20 ho hb hg hat; rw [← Ny209.out] at ho; have n0_ := Aside0.mk (hb); have n1_ := Aside0.mk (ho); clear HB; clear HO_8; have HB := n0_; have HO211 := n1_; clear n0_ n1_; clear ho hb hg hat))
                            go_roundg k2
                            case measure => have := HJ4.out; have := HK2.out; omega
                            case rel => exact ⟨(y209), (0), (by first | rfl | (simp; done) | (simp [*]; done)), H', ⟨by have := HJ4.out; have := HK2.out; omega⟩, ⟨by (with_reducible repeat (first | apply Kd.R_alloc | apply Kd.R_drewN | apply Kd.R_drew)); exact HO211.out⟩, ⟨by repeat (first | (with_reducible first | exact HB.out | apply below_alloc | apply pw_below_drewN | apply below_drew1) | exact HB.out)⟩⟩
                          · rw [if_neg c18] at H
                            have c18b0 : ((wrap64 (x10_2 + 1)) == (((rd_T25 l0 t204).f1).length : Int)) = false := beq_eq_false_iff_ne.mpr c18
                            have c18b1 : ((wrap64 (x10_2 + 1)) != (((rd_T25 l0 t204).f1).length : Int)) = true := bne_iff_ne.mpr c18
                            have H' := Aside0.mk H
                            clear H
                            obtain ⟨Ao21, co21, eo21⟩ := Kd.R_slice HO_8.out
                            subst eo21
                            have p208 : 0 ≤ (x10_2 : Int) := of_decide_eq_true (by first | (with_reducible assumption) | assumption)
                            have q208 : x10_2 < (((rd_T25 l0 t204).f1).length : Int) := of_decide_eq_true (by first | (with_reducible assumption) | assumption)
                            obtain ⟨ad208, e208, hx208_0, hx208_1⟩ := at_T32 HR206_1.out x10_2 p208 q208
                            cases e208
                            replace hx208_0 := (HB.out.cell (World.block_lt_of_cell? w _ hx208_0)).trans hx208_0
                            replace hx208_1 := (HB.out.cell (World.block_lt_of_cell? w _ hx208_1)).trans hx208_1
                            replace p208 := eq_true p208
                            replace q208 := eq_true q208
                            go_wp2_with (first | ((with_reducible refine gate_builtin (b := .append) (xs := #[.tmp 51, .tmp 56]) rfl ?_); (try (refine gate_guard (by rfl) ?_; dsimp only)); at_builtin; refine Kd.R_append k32 (w0 := w) w.heap.size rfl (.tmp 51) (.tmp 56) 23 32 (.agg #[(.int .i64 0), (.int .u64 0)]) 16 rfl Try.underlying23 info32 rfl (by decide) (by omega) (.slice Ao21 x8_2.length co21) x8_2 (⟨(rd_T32 ((rd_T25 l0 t204).f1) x10_2).f0, (rd_T32 ((rd_T25 l0 t204).f1) x10_2).f1⟩ : S32) [.int .i64 ((rd_T32 ((rd_T25 l0 t204).f1) x10_2).f0), .int .u64 ((rd_T32 ((rd_T25 l0 t204).f1) x10_2).f1)] (fun _ => True) (fun _ => False) rfl rfl ?aP (fun _ hk => hk.elim) ?aF ?aO ?aB ?aS ?aL ?_; (case aP => exact k32_mkM _ _ _ (⟨(rd_T32 ((rd_T25 l0 t204).f1) x10_2).f0, (rd_T32 ((rd_T25 l0 t204).f1) x10_2).f1⟩ : S32)); (case aB => exact (Hb HB.out)); (case aF => exact (fun _ _ => trivial)); (case aO => exact (Rb HO_8.out)); (case aS => exact (below_size (Hb HB.out))); (case aL => have := LMc17.out; omega); intro v210 w22 ho hb hg hat; rw [← Ny209.out] at ho; have n0_ := Aside0.mk (hb); have n1_ := Aside0.mk (ho); clear HB; clear HO_8; have HB := n0_; have HO211 := n1_; clear n0_ n1_; clear ho hb hg hat))
                            go_roundg k2
                            case measure => have := HJ4.out; have := HK2.out; omega
                            case rel => exact ⟨(y209), (wrap64 (x10_2 + 1)), (by first | rfl | (simp; done) | (simp [*]; done)), H', ⟨by have := HJ4.out; have := HK2.out; omega⟩, ⟨by (with_reducible repeat (first | apply Kd.R_alloc | apply Kd.R_drewN | apply Kd.R_drew)); exact HO211.out⟩, ⟨by repeat (first | (with_reducible first | exact HB.out | apply below_alloc | apply pw_below_drewN | apply below_drew1) | exact HB.out)⟩⟩
                        · rw [if_neg c17] at H
                          exact absurd H (by simp)
                      · rw [if_neg c16] at H
                        exact absurd H (by simp)
                    · rw [if_neg c15] at H
                      exact absurd H (by simp)
                  · rw [if_neg c14] at H
                    have c14b0 : decide ((x8_2.length : Int) < a1) = false := decide_eq_false c14
                    clear c14
                    obtain rfl := Option.some.inj H
                    obtain ⟨Ao23, co23, eo23⟩ := Kd.R_slice HO_8.out
                    subst eo23
                    go_wp2
                    go_ret
                    exact ⟨_, by first | rfl | (simp [errW_none, errW_some] <;> rfl) | (simp [*, errW_none, errW_some] <;> rfl), by (with_reducible repeat (first | apply Kd.R_alloc | apply Kd.R_drewN | apply Kd.R_drew)); exact HO_8.out, by repeat (first | (with_reducible first | exact HB.out | apply below_alloc | apply pw_below_drewN | apply below_drew1) | exact HB.out)⟩
          · rw [if_neg c12] at H
            exact absurd H (by simp)
        · rw [if_neg c11] at H
          exact absurd H (by simp)
end Go.Proofs.Ytipjnfljkknmgaa.Q
namespace Go.Proofs.Ytipjnfljkknmgaa.Q
open Go.RowKit Go.Proofs.YtipjnfljkknmgaaW.PrintWords Go.Proofs.YtipjnfljkknmgaaW.PrintLast Go.Proofs.YtipjnfljkknmgaaW.PrintMore
set_option linter.unusedVariables false
set_option linter.unusedSimpArgs false
set_option linter.unusedSectionVars false
section
variable (set frm : List S32) (hs : set.length ≤ 4611686018427387903) (hf : frm.length ≤ 4611686018427387903)
include hs hf
theorem pmissing_ev (w a : Int) : Ev (fun k => stripe_Missing.f k set w a frm) (missB set w a frm) := ⟨2 * set.length + frm.length + 1, fun k hk => missing_ev set w a frm hs (by omega) k (by omega)⟩
theorem packed_ev (a : Int) : Ev (fun k => stripe_Acked.f k set a frm) (decide (a ≥ 1 ∧ (cnt set frm : Int) ≥ a)) := by
  unfold stripe_Acked.f
  by_cases h : a ≥ 1
  · simp only [if_pos h]
    refine Ev.bind ⟨2 * set.length + frm.length + 1, fun k hk => count_ev set frm hs (by omega) k (by omega)⟩ ?_
    rw [show decide (a ≥ 1 ∧ (cnt set frm : Int) ≥ a) = decide ((cnt set frm : Int) ≥ a) from by simp [h]]
    exact Ev.now _
  · simp only [if_neg h]
    rw [show decide (a ≥ 1 ∧ (cnt set frm : Int) ≥ a) = false from by simp [h]]
    exact Ev.now _
end
end Go.Proofs.Ytipjnfljkknmgaa.Q
namespace Go.Proofs.Ytipjnfljkknmgaa.Q
open Go.RowKit Go.Proofs.YtipjnfljkknmgaaW.PrintWords Go.Proofs.YtipjnfljkknmgaaW.PrintLast Go.Proofs.YtipjnfljkknmgaaW.PrintMore
attribute [local go_sem] max2_int min2_int max_two min_two max_three min_three max_four min_four   -- for this text's walks alone
set_option linter.unusedVariables false
set_option linter.unusedSimpArgs false
mutual
def scrivenerref14_Covered.j0 : Nat → Int → Int → List (S32) → Bool → Int → List (S32) → Option (Bool)
  | 0, _, _, _, _, _, _ => none
  | k + 1, x1, x2, x3, x18, x213000, x213001 => if x18 = true then (some false) else (scrivenerref14_Covered.l0 k x1 x2 x3 1 1 x213001)
def scrivenerref14_Covered.l0 : Nat → Int → Int → List (S32) → Int → Int → List (S32) → Option (Bool)
  | 0, _, _, _, _, _, _ => none
  | k + 1, x1, x2, x3, x9, x213000, x213001 => if x9 ≤ (x213001.length : Int) then ((scrivenerref14_Set.f k (([(⟨x213000, x213001⟩ : S25)] : List (S25))) x1 (IntKind.u64.wrap (x9))).bind fun t216 => ((scrivenerref14_Missing.f k t216 x1 x2 x3).bind fun t219 => (if t219 = true then (scrivenerref14_Covered.l0 k x1 x2 x3 (wrap64 (x9 + 1)) x213000 x213001) else (some false)))) else (some true)
end
def scrivenerref14_Covered.f (k : Nat) (a0_0 : Int) (l0_1 : List (S32)) (a1 : Int) (a2 : Int) (l3 : List (S32)) : Option (Bool) := if a1 < 1 then (scrivenerref14_Covered.j0 k a1 a2 l3 true a0_0 l0_1) else (scrivenerref14_Covered.j0 k a1 a2 l3 (decide (a1 > (l0_1.length : Int))) a0_0 l0_1)
set_option maxHeartbeats 8000000 in
set_option maxRecDepth 100000 in
theorem scrivenerref14_Covered.calls (k : Nat) (a0_0 : Int) (P0_1_ : Nat → Prop) (A0_1 : Option Addr) (c0_1 : Nat) (l0_1 : List (S32)) (a1 : Int) (a2 : Int) (A3 : Option Addr) (c3 : Nat) (l3 : List (S32)) (r : Bool) (w : World) (hs0_1 : Kd.V k32 32 w w.heap.size (fun k_ => P0_1_ k_) (.slice A0_1 l0_1.length c0_1) l0_1) (hr3 : Kd.C k32 w A3 l3.length l3) (hc3 : l3.length ≤ c3) (h : scrivenerref14_Covered.f k a0_0 l0_1 a1 a2 l3 = some r) :
    Calls Try.prog 21 #[.agg #[.int .u64 a0_0, .slice A0_1 l0_1.length c0_1], .int .i64 a1, .int .i64 a2, .slice A3 l3.length c3] w fun e w' => e = .returned (.bool r) ∧ Below w.heap.size w w' := by
  have hu25 := Try.underlying25
  have HO0_1 := Aside0.mk (show Kd.V k32 32 w w.heap.size (fun k_ => (P0_1_ k_ ∨ w.heap.size ≤ k_)) (.slice A0_1 l0_1.length c0_1) l0_1 from Kd.V_mono hs0_1 (fun k_ hk => .inl hk))
  have HR3 := Aside0.mk hr3
  have HC3 := Aside0.mk hc3
  clear hr3 hc3
  have HB := Aside0.mk (Below.refl w.heap.size w)
  have H : (if a1 < 1 then (scrivenerref14_Covered.j0 k a1 a2 l3 true a0_0 l0_1) else (scrivenerref14_Covered.j0 k a1 a2 l3 (decide (a1 > (l0_1.length : Int))) a0_0 l0_1)) = some r := h
  clear h
  have HC5 := Aside0.mk H
  clear H
  go_enter Try.func21, Try.ntmps21
  go_upto_region 1 with (first | ((with_reducible refine gate_dst (N := 4) rfl ?_); (try (refine gate_guard (by rfl) ?_; dsimp only)); refine box_event ?hg (N := 4) ?hd (cs := #[.int .u64 a0_0, .slice A0_1 l0_1.length c0_1]) (t := 25) ?hr ?_; (case hd => rfl); (case hg => rfl); (case hr => first | (go_simp; done) | (go_simp; rfl)); intro gb212 hg w6 hbox hb; have n0_ := Aside0.mk (Kd.V_below (Kd.V_elderB (Vb HO0_1.out) gb212 (Nat.le_of_eq hg.symm)) hb); have n1_ := Aside0.mk (below_step (Hb HB.out) hb); have n2_ := Aside0.mk (hbox); have n3_ := Aside0.mk ((by rw [hg]; exact (below_size (Hb HB.out)) : w.heap.size ≤ gb212)); have n4_ := Aside0.mk ((by rw [hg]; exact (below_size (Hb HB.out)) : w.heap.size ≤ gb212)); clear HO0_1; clear HB; have HO0_1 := n0_; have HB := n1_; have BK212 := n2_; have GW212 := n3_; have GE212 := n4_; clear n0_ n1_ n2_ n3_ n4_; clear hb hbox hg))
  (try simp only [Act.put, List.setIfInBounds_toArray, List.set_cons_zero, List.set_cons_succ])
  go_cut [18] (fun v18 wc => ∃ (kq : Nat) (x18_4 : Bool), v18 = .bool x18_4 ∧ Aside0 (scrivenerref14_Covered.j0 kq a1 a2 l3 x18_4 a0_0 l0_1 = some r) ∧ Aside0 (kq ≤ k) ∧ Aside0 (Kd.V k32 32 wc w.heap.size (fun k_ => (P0_1_ k_ ∨ w.heap.size ≤ k_) ∧ k_ ≠ gb212) (.slice A0_1 l0_1.length c0_1) l0_1) ∧ Aside0 (wc.heap[gb212]? = some (.cells #[.int .u64 a0_0, (.slice A0_1 l0_1.length c0_1)] 25 (0, 0))) ∧ Aside0 (Below w.heap.size w wc))
  case first =>
    have H := HC5.out
    clear HC5
    by_cases c7 : a1 < 1
    · rw [if_pos c7] at H
      have c7b0 : decide (a1 < 1) = true := decide_eq_true c7
      clear c7
      (first | rw [c7b0] | (simp only [i64_w, i32_w]; rw [c7b0]) | skip)
      have H' := Aside0.mk H
      clear H
      go_wp2
      go_meet
      case rel => exact ⟨_, (true), (by first | rfl | (simp; done) | (simp [*]; done)), H', ⟨by first | omega | exact Nat.le_refl _⟩, ⟨by (with_reducible repeat (first | apply Kd.V_alloc | apply Kd.V_drewN | apply Kd.V_drew)); exact HO0_1.out⟩, ⟨by (with_reducible repeat (first | refine blk_drewN ?_ _ | refine blk_drew ?_ | refine blk_alloc ?_ _)); exact BK212.out⟩, ⟨by repeat (first | (with_reducible first | exact HB.out | apply below_alloc | apply pw_below_drewN | apply below_drew1 | refine below_set ?_ GE212.out) | exact HB.out)⟩⟩
    · rw [if_neg c7] at H
      have c7b0 : decide (a1 < 1) = false := decide_eq_false c7
      clear c7
      (first | rw [c7b0] | (simp only [i64_w, i32_w]; rw [c7b0]) | skip)
      have H' := Aside0.mk H
      clear H
      have hcz8_0 : w6.cell? ⟨gb212, 0, none⟩ = some (.int .u64 a0_0) := (blk_cell BK212.out 0).trans rfl
      have hcz8_1 : w6.cell? ⟨gb212, 1, none⟩ = some (.slice A0_1 l0_1.length c0_1) := (blk_cell BK212.out 1).trans rfl
      have hfz8_0 := blk_frozen BK212.out 0
      have hfz8_1 := blk_frozen BK212.out 1
      go_wp2
      go_meet
      case rel => exact ⟨_, (decide (a1 > (l0_1.length : Int))), (by first | rfl | (simp; done) | (simp [*]; done)), H', ⟨by first | omega | exact Nat.le_refl _⟩, ⟨by (with_reducible repeat (first | apply Kd.V_alloc | apply Kd.V_drewN | apply Kd.V_drew)); exact HO0_1.out⟩, ⟨by (with_reducible repeat (first | refine blk_drewN ?_ _ | refine blk_drew ?_ | refine blk_alloc ?_ _)); exact BK212.out⟩, ⟨by repeat (first | (with_reducible first | exact HB.out | apply below_alloc | apply pw_below_drewN | apply below_drew1 | refine below_set ?_ GE212.out) | exact HB.out)⟩⟩
  case rest =>
    clear HC5
    try clear c2
    try clear p2
    try clear c3
    try clear c7
    try clear c7b0
    try clear hcz8_0
    try clear hcz8_1
    try clear hfz8_0
    try clear hfz8_1
    obtain ⟨kq, x18_4, rfl, HA, HJ4, HO_213001, BK212, HB⟩ := hcut
    cases kq with
    | zero => exact absurd HA.out (by simp [scrivenerref14_Covered.j0])
    | succ kj4 =>
      have H := HA.out
      clear HA
      simp only [scrivenerref14_Covered.j0] at H
      by_cases c9 : x18_4 = true
      · subst c9
        rw [if_pos rfl] at H
        obtain rfl := Option.some.inj H
        go_wp2
        go_ret
        exact ⟨by first | rfl | (simp [errW_none, errW_some] <;> rfl) | (simp [*, errW_none, errW_some] <;> rfl), by repeat (first | (with_reducible first | exact HB.out | apply below_alloc | apply pw_below_drewN | apply below_drew1 | refine below_set ?_ GE212.out) | exact HB.out)⟩
      · replace c9 := Bool.eq_false_iff.mpr c9
        subst c9
        rw [if_neg (show ¬ (false = true) by decide)] at H
        have H' := Aside0.mk H
        clear H
        have hcz10_0 : wc.cell? ⟨gb212, 0, none⟩ = some (.int .u64 a0_0) := (blk_cell BK212.out 0).trans rfl
        have hcz10_1 : wc.cell? ⟨gb212, 1, none⟩ = some (.slice A0_1 l0_1.length c0_1) := (blk_cell BK212.out 1).trans rfl
        have hfz10_0 := blk_frozen BK212.out 0
        have hfz10_1 := blk_frozen BK212.out 1
        go_wp2
        go_loopg [9] kj4 (fun kq v9 w' => ∃ (x9_2 : Int), v9 = .int .i64 x9_2 ∧ Aside0 (scrivenerref14_Covered.l0 kq a1 a2 l3 x9_2 1 l0_1 = some r) ∧ Aside0 (kq ≤ kj4) ∧ Aside0 (Kd.V k32 32 w' w.heap.size (fun k_ => (P0_1_ k_ ∨ w.heap.size ≤ k_) ∧ k_ ≠ gb212) (.slice A0_1 l0_1.length c0_1) l0_1) ∧ Aside0 (w'.heap[gb212]? = some (.cells #[.int .u64 1, (.slice A0_1 l0_1.length c0_1)] 25 (0, 0))) ∧ Aside0 (Below w.heap.size w w'))
        case atStart => exact ⟨(1), (by first | rfl | (simp; done) | (simp [*]; done)), H', ⟨Nat.le_refl _⟩, ⟨by (with_reducible repeat (first | apply Kd.V_alloc | apply Kd.V_drewN | apply Kd.V_drew)); exact Kd.V_mono (Kd.V_far (p := ⟨gb212, 0, none⟩) (Kd.V_mono HO_213001.out (fun k_ hk => (⟨hk, hk.2⟩ : _ ∧ k_ ≠ gb212))) (fun _ hk => hk.2) (.int .u64 1)) (fun _ hk => ⟨hk.1.1, hk.1.2⟩)⟩, ⟨by (with_reducible repeat (first | refine blk_drewN ?_ _ | refine blk_drew ?_ | refine blk_alloc ?_ _)); refine blk_put (cs := #[.int .u64 a0_0, .slice A0_1 l0_1.length c0_1]) ?_ 0 _ rfl; (with_reducible repeat (first | refine blk_drewN ?_ _ | refine blk_drew ?_ | refine blk_alloc ?_ _)); exact BK212.out⟩, ⟨by repeat (first | (with_reducible first | exact HB.out | apply below_alloc | apply pw_below_drewN | apply below_drew1 | refine below_set ?_ GE212.out) | exact HB.out)⟩⟩
        case round =>
          clear H'
          try clear c2
          try clear p2
          try clear c3
          try clear c7
          try clear c7b0
          try clear c9
          try clear hcz10_0
          try clear hcz10_1
          try clear hcz8_0
          try clear hcz8_1
          try clear hfz10_0
          try clear hfz10_1
          try clear hfz8_0
          try clear hfz8_1
          try clear p2
          obtain ⟨x9_2, rfl, HA, HK2, HO_213001, BK212, HB⟩ := hrel
          cases gk with
          | zero => exact absurd HA.out (by simp [scrivenerref14_Covered.l0])
          | succ k2 =>
            have H := HA.out
            clear HA
            simp only [scrivenerref14_Covered.l0] at H
            by_cases c11 : x9_2 ≤ (l0_1.length : Int)
            · rw [if_pos c11] at H
              have c11b0 : decide (x9_2 ≤ (l0_1.length : Int)) = true := decide_eq_true c11
              clear c11
              obtain ⟨y213, hy213⟩ : ∃ y_ : List (S25), y_ = (([(⟨1, l0_1⟩ : S25)] : List (S25))) := ⟨_, rfl⟩
              replace H : ((scrivenerref14_Set.f k2 y213 a1 (IntKind.u64.wrap (x9_2))).bind fun t216 => ((scrivenerref14_Missing.f k2 t216 a1 a2 l3).bind fun t219 => (if t219 = true then (scrivenerref14_Covered.l0 k2 a1 a2 l3 (wrap64 (x9_2 + 1)) 1 l0_1) else (some false)))) = some r := by first | (rw [hy213]; with_reducible exact H) | (have H2_ := (Option.bind_some _ _).symm.trans H; rw [hy213]; with_reducible exact H2_) | (have H2_ := (Option.bind_some _ _).symm.trans H; with_reducible exact H2_) | with_reducible exact H | (rw [hy213]; exact H) | exact H
              have Ny213 := Aside0.mk hy213
              clear hy213
              replace H := Option.bind_eq_some_iff.mp H
              obtain ⟨t216, A120, H⟩ := H
              replace H : ((scrivenerref14_Missing.f k2 t216 a1 a2 l3).bind fun t219 => (if t219 = true then (scrivenerref14_Covered.l0 k2 a1 a2 l3 (wrap64 (x9_2 + 1)) 1 l0_1) else (some false))) = some r := H
              have A12 := Aside0.mk A120
              clear A120
              replace H := Option.bind_eq_some_iff.mp H
              obtain ⟨t219, A130, H⟩ := H
              replace H : (if t219 = true then (scrivenerref14_Covered.l0 k2 a1 a2 l3 (wrap64 (x9_2 + 1)) 1 l0_1) else (some false)) = some r := H
              have A13 := Aside0.mk A130
              clear A130
              by_cases c14 : t219 = true
              · subst c14
                rw [if_pos rfl] at H
                have H' := Aside0.mk H
                clear H
                have hcz15_0 : wr.cell? ⟨gb212, 0, none⟩ = some (.int .u64 1) := (blk_cell BK212.out 0).trans rfl
                have hcz15_1 : wr.cell? ⟨gb212, 1, none⟩ = some (.slice A0_1 l0_1.length c0_1) := (blk_cell BK212.out 1).trans rfl
                have hfz15_0 := blk_frozen BK212.out 0
                have hfz15_1 := blk_frozen BK212.out 1
                go_wp2_with (first | ((with_reducible refine gate_dst (N := 28) rfl ?_); (try (refine gate_guard (by rfl) ?_; dsimp only)); refine Kd.N_lit k25 _ 25 ?hg (N' := 28) ?hd (xs := ([(⟨1, l0_1⟩ : S25)] : List (S25))) (inner := [.int .u64 1, .slice A0_1 l0_1.length c0_1]) (ok := (fun k_ => (P0_1_ k_ ∨ w.heap.size ≤ k_) ∧ k_ ≠ gb212)) (okp := (fun k_ => (P0_1_ k_ ∨ w.heap.size ≤ k_) ∧ k_ ≠ gb212)) ?hr ?hp (fun _ hk => hk) ((show ∀ k_, wr.heap.size ≤ k_ → (fun k_ => (P0_1_ k_ ∨ w.heap.size ≤ k_) ∧ k_ ≠ gb212) k_ from fun k_ hk => ⟨(.inr (Nat.le_trans (below_size (Hb HB.out)) hk)), Kd.freshB (Bb BK212.out) k_ hk⟩) _ (Nat.le_refl _)) (Below.refl _ _) (Nat.le_refl _) (by simp) ?_; (case hd => rfl); (case hg => rfl); (case hr => first | (go_simp; done) | (go_simp; rfl)); (case hp => exact (Reps.c2 (show Kd.FK k25 _ _ (⟨1, l0_1⟩ : S25) [.int .u64 1, .slice A0_1 l0_1.length c0_1] from (k25_mkF _ _ (⟨1, l0_1⟩ : S25) (Kd.V_reads' HO_213001.out).2.1 (Kd.V_F (Kd.V_mono (Vb HO_213001.out) (fun k_ hk => ⟨hk.1, hk.2⟩))))) (Reps.none _ _))); intro v214 w16 ho17 hb hg_ hnew_; clear hg_ hnew_; (first | rw [← Ny213.out] at ho17 | (simp only [Int.reduceToNat] at ho17; rw [← Ny213.out] at ho17)); have n0_ := Aside0.mk (Kd.V_elder' (Vb HO_213001.out) (Kd.N_base ho17) hb); have n1_ := Aside0.mk (Kd.N_lower ho17 (below_size (Hb HB.out))); have n2_ := Aside0.mk (blk_below (Bb BK212.out) hb); have n3_ := Aside0.mk (below_step (Hb HB.out) hb); clear HO_213001; clear BK212; clear HB; have HO_213001 := n0_; have HO215 := n1_; have BK212 := n2_; have HB := n3_; clear n0_ n1_ n2_ n3_; clear hb ho17; obtain ⟨Ao18, co18, eo18⟩ := Kd.N_slice HO215.out; subst eo18) | ((with_reducible refine gate_callee (f := 39) rfl ?_); refine goesL_ (some 32) rfl rfl Try.func39 (by kernel_rfl) rfl #[.slice Ao18 y213.length co18, .int .i64 a1, .int .u64 (IntKind.u64.wrap (x9_2))] rfl (by (try simp only [List.map_toArray, List.map_cons, List.map_nil]); first | done | rfl | (simp only [List.length_drop, List.length_take]; rfl)) ?_; (with_reducible refine (scrivenerref14_Set.calls k2 _ _ y213 a1 (IntKind.u64.wrap (x9_2)) t216 _ ?side1 ?side2 A12.out).mono ?_); (case side1 => exact Cb (Kd.N_reads' HO215.out).2.2); (case side2 => exact (Kd.N_reads' HO215.out).2.1); rintro e w19 ⟨v217, rfl, ho0, hb⟩; refine ⟨_, rfl, ?_⟩; have n0_ := Aside0.mk (Kd.V_elder' (Vb HO_213001.out) (Kd.R_base ho0) hb); have n1_ := Aside0.mk (Kd.N_elder' (Nb HO215.out) (Kd.R_base ho0) hb); have n2_ := Aside0.mk (Kd.R_lower (Kd.R_newM (M := fun k_ => (w.heap.size ≤ k_)) ho0 (below_size (Hb HB.out)) (fun k_ h_ => h_)) (below_size (Hb HB.out))); have n3_ := Aside0.mk (blk_below (Bb BK212.out) hb); have n4_ := Aside0.mk (below_step (Hb HB.out) hb); clear HO_213001; clear HO215; clear BK212; clear HB; have HO_213001 := n0_; have HO215 := n1_; have HO218 := n2_; have BK212 := n3_; have HB := n4_; clear n0_ n1_ n2_ n3_ n4_; (try clear hb); (try clear hb2); (try clear hk); (try clear hi); (try clear ho0); obtain ⟨Ao20, co20, eo20⟩ := Kd.R_slice HO218.out; subst eo20) | ((with_reducible refine gate_callee (f := 20) rfl ?_); refine goesL_ (some 36) rfl rfl Try.func20 (by kernel_rfl) rfl #[.slice Ao20 t216.length co20, .int .i64 a1, .int .i64 a2, .slice A3 l3.length c3] rfl (by (try simp only [List.map_toArray, List.map_cons, List.map_nil]); first | done | rfl | (simp only [List.length_drop, List.length_take]; rfl)) ?_; (with_reducible refine (scrivenerref14_Missing.calls k2 _ _ t216 a1 a2 _ _ l3 true _ ?side1 ?side2 ?side3 ?side4 A13.out).mono ?_); (case side1 => exact Cb (Kd.R_reads' HO218.out).2.2); (case side2 => exact (Kd.R_reads' HO218.out).2.1); (case side3 => repeat (first | exact (Kd.C_below HR3.out HB.out) | (with_reducible refine Kd.C_alloc ?_ _) | (with_reducible refine Kd.C_drewN ?_ _) | (with_reducible refine Kd.C_drew ?_))); (case side4 => exact HC3.out); rintro e w' ⟨rfl, ⟨nd, rfl⟩⟩; refine ⟨_, rfl, ?_⟩))
                go_roundg k2
                case measure => have := HJ4.out; have := HK2.out; omega
                case rel => exact ⟨(wrap64 (x9_2 + 1)), (by first | rfl | (simp; done) | (simp [*]; done)), H', ⟨by have := HJ4.out; have := HK2.out; omega⟩, ⟨by (with_reducible repeat (first | apply Kd.V_alloc | apply Kd.V_drewN | apply Kd.V_drew)); exact Kd.V_mono HO_213001.out (fun _ hk => ⟨hk.1.1.1, hk.1.1.2⟩)⟩, ⟨by (with_reducible repeat (first | refine blk_drewN ?_ _ | refine blk_drew ?_ | refine blk_alloc ?_ _)); exact BK212.out⟩, ⟨by repeat (first | (with_reducible first | exact HB.out | apply below_alloc | apply pw_below_drewN | apply below_drew1 | refine below_set ?_ GE212.out) | exact HB.out)⟩⟩
              · replace c14 := Bool.eq_false_iff.mpr c14
                subst c14
                rw [if_neg (show ¬ (false = true) by decide)] at H
                obtain rfl := Option.some.inj H
                have hcz21_0 : wr.cell? ⟨gb212, 0, none⟩ = some (.int .u64 1) := (blk_cell BK212.out 0).trans rfl
                have hcz21_1 : wr.cell? ⟨gb212, 1, none⟩ = some (.slice A0_1 l0_1.length c0_1) := (blk_cell BK212.out 1).trans rfl
                have hfz21_0 := blk_frozen BK212.out 0
                have hfz21_1 := blk_frozen BK212.out 1
                go_wp2_with (first | ((with_reducible refine gate_dst (N := 28) rfl ?_); (try (refine gate_guard (by rfl) ?_; dsimp only)); refine Kd.N_lit k25 _ 25 ?hg (N' := 28) ?hd (xs := ([(⟨1, l0_1⟩ : S25)] : List (S25))) (inner := [.int .u64 1, .slice A0_1 l0_1.length c0_1]) (ok := (fun k_ => (P0_1_ k_ ∨ w.heap.size ≤ k_) ∧ k_ ≠ gb212)) (okp := (fun k_ => (P0_1_ k_ ∨ w.heap.size ≤ k_) ∧ k_ ≠ gb212)) ?hr ?hp (fun _ hk => hk) ((show ∀ k_, wr.heap.size ≤ k_ → (fun k_ => (P0_1_ k_ ∨ w.heap.size ≤ k_) ∧ k_ ≠ gb212) k_ from fun k_ hk => ⟨(.inr (Nat.le_trans (below_size (Hb HB.out)) hk)), Kd.freshB (Bb BK212.out) k_ hk⟩) _ (Nat.le_refl _)) (Below.refl _ _) (Nat.le_refl _) (by simp) ?_; (case hd => rfl); (case hg => rfl); (case hr => first | (go_simp; done) | (go_simp; rfl)); (case hp => exact (Reps.c2 (show Kd.FK k25 _ _ (⟨1, l0_1⟩ : S25) [.int .u64 1, .slice A0_1 l0_1.length c0_1] from (k25_mkF _ _ (⟨1, l0_1⟩ : S25) (Kd.V_reads' HO_213001.out).2.1 (Kd.V_F (Kd.V_mono (Vb HO_213001.out) (fun k_ hk => ⟨hk.1, hk.2⟩))))) (Reps.none _ _))); intro v214 w22 ho23 hb hg_ hnew_; clear hg_ hnew_; (first | rw [← Ny213.out] at ho23 | (simp only [Int.reduceToNat] at ho23; rw [← Ny213.out] at ho23)); have n0_ := Aside0.mk (Kd.V_elder' (Vb HO_213001.out) (Kd.N_base ho23) hb); have n1_ := Aside0.mk (Kd.N_lower ho23 (below_size (Hb HB.out))); have n2_ := Aside0.mk (blk_below (Bb BK212.out) hb); have n3_ := Aside0.mk (below_step (Hb HB.out) hb); clear HO_213001; clear BK212; clear HB; have HO_213001 := n0_; have HO215 := n1_; have BK212 := n2_; have HB := n3_; clear n0_ n1_ n2_ n3_; clear hb ho23; obtain ⟨Ao24, co24, eo24⟩ := Kd.N_slice HO215.out; subst eo24) | ((with_reducible refine gate_callee (f := 39) rfl ?_); refine goesL_ (some 32) rfl rfl Try.func39 (by kernel_rfl) rfl #[.slice Ao24 y213.length co24, .int .i64 a1, .int .u64 (IntKind.u64.wrap (x9_2))] rfl (by (try simp only [List.map_toArray, List.map_cons, List.map_nil]); first | done | rfl | (simp only [List.length_drop, List.length_take]; rfl)) ?_; (with_reducible refine (scrivenerref14_Set.calls k2 _ _ y213 a1 (IntKind.u64.wrap (x9_2)) t216 _ ?side1 ?side2 A12.out).mono ?_); (case side1 => exact Cb (Kd.N_reads' HO215.out).2.2); (case side2 => exact (Kd.N_reads' HO215.out).2.1); rintro e w25 ⟨v217, rfl, ho0, hb⟩; refine ⟨_, rfl, ?_⟩; have n0_ := Aside0.mk (Kd.V_elder' (Vb HO_213001.out) (Kd.R_base ho0) hb); have n1_ := Aside0.mk (Kd.N_elder' (Nb HO215.out) (Kd.R_base ho0) hb); have n2_ := Aside0.mk (Kd.R_lower (Kd.R_newM (M := fun k_ => (w.heap.size ≤ k_)) ho0 (below_size (Hb HB.out)) (fun k_ h_ => h_)) (below_size (Hb HB.out))); have n3_ := Aside0.mk (blk_below (Bb BK212.out) hb); have n4_ := Aside0.mk (below_step (Hb HB.out) hb); clear HO_213001; clear HO215; clear BK212; clear HB; have HO_213001 := n0_; have HO215 := n1_; have HO218 := n2_; have BK212 := n3_; have HB := n4_; clear n0_ n1_ n2_ n3_ n4_; (try clear hb); (try clear hb2); (try clear hk); (try clear hi); (try clear ho0); obtain ⟨Ao26, co26, eo26⟩ := Kd.R_slice HO218.out; subst eo26) | ((with_reducible refine gate_callee (f := 20) rfl ?_); refine goesL_ (some 36) rfl rfl Try.func20 (by kernel_rfl) rfl #[.slice Ao26 t216.length co26, .int .i64 a1, .int .i64 a2, .slice A3 l3.length c3] rfl (by (try simp only [List.map_toArray, List.map_cons, List.map_nil]); first | done | rfl | (simp only [List.length_drop, List.length_take]; rfl)) ?_; (with_reducible refine (scrivenerref14_Missing.calls k2 _ _ t216 a1 a2 _ _ l3 false _ ?side1 ?side2 ?side3 ?side4 A13.out).mono ?_); (case side1 => exact Cb (Kd.R_reads' HO218.out).2.2); (case side2 => exact (Kd.R_reads' HO218.out).2.1); (case side3 => repeat (first | exact (Kd.C_below HR3.out HB.out) | (with_reducible refine Kd.C_alloc ?_ _) | (with_reducible refine Kd.C_drewN ?_ _) | (with_reducible refine Kd.C_drew ?_))); (case side4 => exact HC3.out); rintro e w' ⟨rfl, ⟨nd, rfl⟩⟩; refine ⟨_, rfl, ?_⟩))
                go_ret
                exact ⟨by first | rfl | (simp [errW_none, errW_some] <;> rfl) | (simp [*, errW_none, errW_some] <;> rfl), by repeat (first | (with_reducible first | exact HB.out | apply below_alloc | apply pw_below_drewN | apply below_drew1 | refine below_set ?_ GE212.out) | exact HB.out)⟩
            · rw [if_neg c11] at H
              have c11b0 : decide (x9_2 ≤ (l0_1.length : Int)) = false := decide_eq_false c11
              clear c11
              obtain rfl := Option.some.inj H
              have hcz27_0 : wr.cell? ⟨gb212, 0, none⟩ = some (.int .u64 1) := (blk_cell BK212.out 0).trans rfl
              have hcz27_1 : wr.cell? ⟨gb212, 1, none⟩ = some (.slice A0_1 l0_1.length c0_1) := (blk_cell BK212.out 1).trans rfl
              have hfz27_0 := blk_frozen BK212.out 0
              have hfz27_1 := blk_frozen BK212.out 1
              go_wp2
              go_ret
              exact ⟨by first | rfl | (simp [errW_none, errW_some] <;> rfl) | (simp [*, errW_none, errW_some] <;> rfl), by repeat (first | (with_reducible first | exact HB.out | apply below_alloc | apply pw_below_drewN | apply below_drew1 | refine below_set ?_ GE212.out) | exact HB.out)⟩
end Go.Proofs.Ytipjnfljkknmgaa.Q
namespace Go.Proofs.Ytipjnfljkknmgaa.Q
open Go.RowKit Go.Proofs.YtipjnfljkknmgaaW.PrintWords Go.Proofs.YtipjnfljkknmgaaW.PrintLast Go.Proofs.YtipjnfljkknmgaaW.PrintMore
attribute [local go_sem] max2_int min2_int max_two min_two max_three min_three max_four min_four   -- for this text's walks alone
set_option linter.unusedVariables false
set_option linter.unusedSimpArgs false
def scrivenerlaw14_StripeCounts.j0 : Nat → List (S32) → Int → Int → List (S32) → Bool → Int → List (S32) → Option (Bool)
  | 0, _, _, _, _, _, _, _ => none
  | k + 1, x1, x2, x3, x4, x30, x221000, x221001 => if x30 = true then ((scrivenerlaw14_awake.f).bind fun t228 => (some t228)) else ((some (([] : List (S32)) : List (S32))).bind fun y229 => (if y229.length + x4.length < 8796093022208 then ((some (y229 ++ x4 : List (S32))).bind fun y232 => ((stripe_Acked.f k x1 x3 y232).bind fun t235 => ((scrivenerref14_Acked.f k x1 x3 x4).bind fun t236 => (if (t235 == t236) = true then ((stripe_Missing.f k x1 x2 x3 y232).bind fun t237 => ((scrivenerref14_Missing.f k x1 x2 x3 x4).bind fun t238 => (if (t237 == t238) = true then ((stripe_Covered.f x221000 x221001 x2 x3 y232).bind fun t239 => ((scrivenerref14_Covered.f k x221000 x221001 x2 x3 x4).bind fun t240 => (if (t239 == t240) = true then ((scrivenerlaw14_awake.f).bind fun t241 => (some t241)) else (some false)))) else (some false)))) else (some false))))) else (none)))
def scrivenerlaw14_StripeCounts.f (k : Nat) (a0_0 : Int) (l0_1 : List (S32)) (l1 : List (S32)) (a2 : Int) (a3 : Int) (l4 : List (S32)) : Option (Bool) := (scrivenerlaw14_long.f k (([(⟨a0_0, l0_1⟩ : S25)] : List (S25))) a2 (([l1, l4] : List (List (S32))))).bind fun t227 => (if t227 = true then (scrivenerlaw14_StripeCounts.j0 k l1 a2 a3 l4 true a0_0 l0_1) else (if a3 < (-1000) then (scrivenerlaw14_StripeCounts.j0 k l1 a2 a3 l4 true a0_0 l0_1) else (if a3 > 1000 then (scrivenerlaw14_StripeCounts.j0 k l1 a2 a3 l4 true a0_0 l0_1) else (scrivenerlaw14_StripeCounts.j0 k l1 a2 a3 l4 (decide (a2 < (-1000))) a0_0 l0_1))))
def scrivenerlaw14_StripeCounts.T4 : Bool × List (List Nat × List Nat) := (true, [([], []), ([], []), ([], []), ([0, 1, 2], [0, 1, 2]), ([], []), ([], []), ([], []), ([4, 5, 6, 3], [4, 5, 6]), ([3, 7], [3, 7]), ([8, 7], [8]), ([9], [9]), ([9], [9]), ([9], [9]), ([9], [9]), ([10, 11, 12, 13, 9, 9], [9, 10, 11, 12, 13]), ([9], [9]), ([9], [9]), ([9], [9]), ([9], [9]), ([15, 16, 17, 18, 14, 9], [9, 15, 16, 17, 18]), ([14, 19, 9], [9, 14, 19]), ([9, 20], [9, 20]), ([21, 19], [21]), ([22], [22]), ([22], [22]), ([22], [22]), ([22], [22]), ([23, 24, 25, 26, 22, 22], [22, 23, 24, 25, 26]), ([22], [22]), ([22], [22]), ([22], [22]), ([22], [22]), ([28, 29, 30, 31, 27, 22], [22, 28, 29, 30, 31]), ([27, 32, 22], [22, 27, 32]), ([22, 33], [22, 33]), ([34, 32], [34]), ([35, 35], [35]), ([35, 36], [35, 36]), ([37, 36, 0, 1, 2, 3, 4, 5, 6, 7, 8, 9, 10, 11, 12, 13, 14, 15, 16, 17, 18, 19, 20, 21, 22, 23, 24, 25, 26, 27, 28, 29, 30, 31, 32, 33, 34, 35, 36, 37], [37])])
def scrivenerlaw14_StripeCounts.B4 : List Nat := [0, 0, 0, 7, 0, 0, 0, 127, 255, 511, 1023, 1023, 1023, 1023, 16383, 1023, 1023, 1023, 1023, 524287, 1048575, 2097151, 4194303, 8388607, 8388607, 8388607, 8388607, 134217727, 8388607, 8388607, 8388607, 8388607, 4294967295, 8589934591, 17179869183, 34359738367, 68719476735, 137438953471, 274877906943]
theorem scrivenerlaw14_StripeCounts.tab4 : rtab .any (opsOf Try.f5 4) = scrivenerlaw14_StripeCounts.T4 := by kernel_rfl
theorem scrivenerlaw14_StripeCounts.bits4 : waitsOk scrivenerlaw14_StripeCounts.T4.2 scrivenerlaw14_StripeCounts.B4 = true := by kernel_rfl
set_option maxHeartbeats 8000000 in
set_option maxRecDepth 100000 in
theorem scrivenerlaw14_StripeCounts.calls (k : Nat) (a0_0 : Int) (P0_1_ : Nat → Prop) (A0_1 : Option Addr) (c0_1 : Nat) (l0_1 : List (S32)) (P1_ : Nat → Prop) (A1 : Option Addr) (c1 : Nat) (l1 : List (S32)) (a2 : Int) (a3 : Int) (P4_ : Nat → Prop) (A4 : Option Addr) (c4 : Nat) (l4 : List (S32)) (r : Bool) (w : World) (hs0_1 : Kd.V k32 32 w w.heap.size (fun k_ => P0_1_ k_) (.slice A0_1 l0_1.length c0_1) l0_1) (hs1 : Kd.V k32 32 w w.heap.size (fun k_ => P1_ k_) (.slice A1 l1.length c1) l1) (hs4 : Kd.V k32 32 w w.heap.size (fun k_ => P4_ k_) (.slice A4 l4.length c4) l4) (h : scrivenerlaw14_StripeCounts.f k a0_0 l0_1 l1 a2 a3 l4 = some r) (hT_ : r = true) :
    Calls Try.prog 5 #[.agg #[.int .u64 a0_0, .slice A0_1 l0_1.length c0_1], .slice A1 l1.length c1, .int .i64 a2, .int .i64 a3, .slice A4 l4.length c4] w fun e w' => e = .returned (.bool r) ∧ Below w.heap.size w w' := by
  have hu25 := Try.underlying25
  have HO0_1 := Aside0.mk (show Kd.V k32 32 w w.heap.size (fun k_ => ((P0_1_ k_ ∨ P1_ k_ ∨ P4_ k_) ∨ w.heap.size ≤ k_)) (.slice A0_1 l0_1.length c0_1) l0_1 from Kd.V_mono hs0_1 (fun k_ hk => .inl (.inl hk)))
  have HO1 := Aside0.mk (show Kd.V k32 32 w w.heap.size (fun k_ => ((P0_1_ k_ ∨ P1_ k_ ∨ P4_ k_) ∨ w.heap.size ≤ k_)) (.slice A1 l1.length c1) l1 from Kd.V_mono hs1 (fun k_ hk => .inl (.inr (.inl hk))))
  have HO4 := Aside0.mk (show Kd.V k32 32 w w.heap.size (fun k_ => ((P0_1_ k_ ∨ P1_ k_ ∨ P4_ k_) ∨ w.heap.size ≤ k_)) (.slice A4 l4.length c4) l4 from Kd.V_mono hs4 (fun k_ hk => .inl (.inr (.inr hk))))
  have HB := Aside0.mk (Below.refl w.heap.size w)
  have H : ((scrivenerlaw14_long.f k (([(⟨a0_0, l0_1⟩ : S25)] : List (S25))) a2 (([l1, l4] : List (List (S32))))).bind fun t227 => (if t227 = true then (scrivenerlaw14_StripeCounts.j0 k l1 a2 a3 l4 true a0_0 l0_1) else (if a3 < (-1000) then (scrivenerlaw14_StripeCounts.j0 k l1 a2 a3 l4 true a0_0 l0_1) else (if a3 > 1000 then (scrivenerlaw14_StripeCounts.j0 k l1 a2 a3 l4 true a0_0 l0_1) else (scrivenerlaw14_StripeCounts.j0 k l1 a2 a3 l4 (decide (a2 < (-1000))) a0_0 l0_1))))) = some r := h
  clear h
  have HT_ := Aside0.mk hT_
  clear hT_
  have HC6 := Aside0.mk H
  clear H
  go_enter Try.func5, Try.ntmps5
  go_upto_region 1 with (first | ((with_reducible refine gate_dst (N := 5) rfl ?_); refine box_event ?hg (N := 5) ?hd (cs := #[.int .u64 a0_0, .slice A0_1 l0_1.length c0_1]) (t := 25) ?hr ?_; (case hd => rfl); (case hg => rfl); (case hr => first | (go_simp; done) | (go_simp; rfl)); intro gb220 hg w7 hbox hb; have n0_ := Aside0.mk (Kd.V_below (Kd.V_elderB (Vb HO0_1.out) gb220 (Nat.le_of_eq hg.symm)) hb); have n1_ := Aside0.mk (Kd.V_below (Kd.V_elderB (Vb HO1.out) gb220 (Nat.le_of_eq hg.symm)) hb); have n2_ := Aside0.mk (Kd.V_below (Kd.V_elderB (Vb HO4.out) gb220 (Nat.le_of_eq hg.symm)) hb); have n3_ := Aside0.mk (below_step (Hb HB.out) hb); have n4_ := Aside0.mk (hbox); have n5_ := Aside0.mk ((by rw [hg]; exact (below_size (Hb HB.out)) : w.heap.size ≤ gb220)); have n6_ := Aside0.mk ((by rw [hg]; exact (below_size (Hb HB.out)) : w.heap.size ≤ gb220)); clear HO0_1; clear HO1; clear HO4; clear HB; have HO0_1 := n0_; have HO1 := n1_; have HO4 := n2_; have HB := n3_; have BK220 := n4_; have GW220 := n5_; have GE220 := n6_; clear n0_ n1_ n2_ n3_ n4_ n5_ n6_; clear hb hbox hg))
  (try simp only [Act.put, List.setIfInBounds_toArray, List.set_cons_zero, List.set_cons_succ])
  go_cut [30] (fun v30 wc => ∃ (kq : Nat) (x30_5 : Bool), v30 = .bool x30_5 ∧ Aside0 (scrivenerlaw14_StripeCounts.j0 kq l1 a2 a3 l4 x30_5 a0_0 l0_1 = some r) ∧ Aside0 (kq ≤ k) ∧ Aside0 (Kd.V k32 32 wc w.heap.size (fun k_ => ((P0_1_ k_ ∨ P1_ k_ ∨ P4_ k_) ∨ w.heap.size ≤ k_) ∧ k_ ≠ gb220) (.slice A1 l1.length c1) l1) ∧ Aside0 (Kd.V k32 32 wc w.heap.size (fun k_ => ((P0_1_ k_ ∨ P1_ k_ ∨ P4_ k_) ∨ w.heap.size ≤ k_) ∧ k_ ≠ gb220) (.slice A4 l4.length c4) l4) ∧ Aside0 (Kd.V k32 32 wc w.heap.size (fun k_ => ((P0_1_ k_ ∨ P1_ k_ ∨ P4_ k_) ∨ w.heap.size ≤ k_) ∧ k_ ≠ gb220) (.slice A0_1 l0_1.length c0_1) l0_1) ∧ Aside0 (wc.heap[gb220]? = some (.cells #[.int .u64 a0_0, (.slice A0_1 l0_1.length c0_1)] 25 (0, 0))) ∧ Aside0 (Below w.heap.size w wc))
  case first =>
    have H := HC6.out
    clear HC6
    obtain ⟨y221, hy221⟩ : ∃ y_ : List (S25), y_ = (([(⟨a0_0, l0_1⟩ : S25)] : List (S25))) := ⟨_, rfl⟩
    replace H : ((scrivenerlaw14_long.f k y221 a2 (([l1, l4] : List (List (S32))))).bind fun t227 => (if t227 = true then (scrivenerlaw14_StripeCounts.j0 k l1 a2 a3 l4 true a0_0 l0_1) else (if a3 < (-1000) then (scrivenerlaw14_StripeCounts.j0 k l1 a2 a3 l4 true a0_0 l0_1) else (if a3 > 1000 then (scrivenerlaw14_StripeCounts.j0 k l1 a2 a3 l4 true a0_0 l0_1) else (scrivenerlaw14_StripeCounts.j0 k l1 a2 a3 l4 (decide (a2 < (-1000))) a0_0 l0_1))))) = some r := by first | (rw [hy221]; with_reducible exact H) | (have H2_ := (Option.bind_some _ _).symm.trans H; rw [hy221]; with_reducible exact H2_) | (have H2_ := (Option.bind_some _ _).symm.trans H; with_reducible exact H2_) | with_reducible exact H | (rw [hy221]; exact H) | exact H
    have Ny221 := Aside0.mk hy221
    clear hy221
    obtain ⟨y224, hy224⟩ : ∃ y_ : List (List (S32)), y_ = (([l1, l4] : List (List (S32)))) := ⟨_, rfl⟩
    replace H : ((scrivenerlaw14_long.f k y221 a2 y224).bind fun t227 => (if t227 = true then (scrivenerlaw14_StripeCounts.j0 k l1 a2 a3 l4 true a0_0 l0_1) else (if a3 < (-1000) then (scrivenerlaw14_StripeCounts.j0 k l1 a2 a3 l4 true a0_0 l0_1) else (if a3 > 1000 then (scrivenerlaw14_StripeCounts.j0 k l1 a2 a3 l4 true a0_0 l0_1) else (scrivenerlaw14_StripeCounts.j0 k l1 a2 a3 l4 (decide (a2 < (-1000))) a0_0 l0_1))))) = some r := by first | (rw [hy224]; with_reducible exact H) | (have H2_ := (Option.bind_some _ _).symm.trans H; rw [hy224]; with_reducible exact H2_) | (have H2_ := (Option.bind_some _ _).symm.trans H; with_reducible exact H2_) | with_reducible exact H | (rw [hy224]; exact H) | exact H
    have Ny224 := Aside0.mk hy224
    clear hy224
    replace H := Option.bind_eq_some_iff.mp H
    obtain ⟨t227, A80, H⟩ := H
    replace H : (if t227 = true then (scrivenerlaw14_StripeCounts.j0 k l1 a2 a3 l4 true a0_0 l0_1) else (if a3 < (-1000) then (scrivenerlaw14_StripeCounts.j0 k l1 a2 a3 l4 true a0_0 l0_1) else (if a3 > 1000 then (scrivenerlaw14_StripeCounts.j0 k l1 a2 a3 l4 true a0_0 l0_1) else (scrivenerlaw14_StripeCounts.j0 k l1 a2 a3 l4 (decide (a2 < (-1000))) a0_0 l0_1)))) = some r := H
    have A8 := Aside0.mk A80
    clear A80
    by_cases c9 : t227 = true
    · subst c9
      rw [if_pos rfl] at H
      have H' := Aside0.mk H
      clear H
      have hcz10_0 : w7.cell? ⟨gb220, 0, none⟩ = some (.int .u64 a0_0) := (blk_cell BK220.out 0).trans rfl
      have hcz10_1 : w7.cell? ⟨gb220, 1, none⟩ = some (.slice A0_1 l0_1.length c0_1) := (blk_cell BK220.out 1).trans rfl
      have hfz10_0 := blk_frozen BK220.out 0
      have hfz10_1 := blk_frozen BK220.out 1
      go_wp2_with (first | ((with_reducible refine gate_dst (N := 13) rfl ?_); refine Kd.N_lit k25 _ 25 ?hg (N' := 13) ?hd (xs := ([(⟨a0_0, l0_1⟩ : S25)] : List (S25))) (inner := [.int .u64 a0_0, .slice A0_1 l0_1.length c0_1]) (ok := (fun k_ => ((P0_1_ k_ ∨ P1_ k_ ∨ P4_ k_) ∨ w.heap.size ≤ k_) ∧ k_ ≠ gb220)) (okp := (fun k_ => ((P0_1_ k_ ∨ P1_ k_ ∨ P4_ k_) ∨ w.heap.size ≤ k_) ∧ k_ ≠ gb220)) ?hr ?hp (fun _ hk => hk) ((show ∀ k_, w7.heap.size ≤ k_ → (fun k_ => ((P0_1_ k_ ∨ P1_ k_ ∨ P4_ k_) ∨ w.heap.size ≤ k_) ∧ k_ ≠ gb220) k_ from fun k_ hk => ⟨(.inr (Nat.le_trans (below_size (Hb HB.out)) hk)), Kd.freshB (Bb BK220.out) k_ hk⟩) _ (Nat.le_refl _)) (Below.refl _ _) (Nat.le_refl _) (by simp) ?_; (case hd => rfl); (case hg => rfl); (case hr => first | (go_simp; done) | (go_simp; rfl)); (case hp => exact (Reps.c2 (show Kd.FK k25 _ _ (⟨a0_0, l0_1⟩ : S25) [.int .u64 a0_0, .slice A0_1 l0_1.length c0_1] from (k25_mkF _ _ (⟨a0_0, l0_1⟩ : S25) (Kd.V_reads' HO0_1.out).2.1 (Kd.V_F (Kd.V_mono (Vb HO0_1.out) (fun k_ hk => ⟨hk.1, hk.2⟩))))) (Reps.none _ _))); intro v222 w11 ho12 hb hg_ hnew_; clear hg_ hnew_; (first | rw [← Ny221.out] at ho12 | (simp only [Int.reduceToNat] at ho12; rw [← Ny221.out] at ho12)); have n0_ := Aside0.mk (Kd.V_elder' (Vb HO0_1.out) (Kd.N_base ho12) hb); have n1_ := Aside0.mk (Kd.V_elder' (Vb HO1.out) (Kd.N_base ho12) hb); have n2_ := Aside0.mk (Kd.V_elder' (Vb HO4.out) (Kd.N_base ho12) hb); have n3_ := Aside0.mk (Kd.N_lower ho12 (below_size (Hb HB.out))); have n4_ := Aside0.mk (blk_below (Bb BK220.out) hb); have n5_ := Aside0.mk (below_step (Hb HB.out) hb); clear HO0_1; clear HO1; clear HO4; clear BK220; clear HB; have HO0_1 := n0_; have HO1 := n1_; have HO4 := n2_; have HO223 := n3_; have BK220 := n4_; have HB := n5_; clear n0_ n1_ n2_ n3_ n4_ n5_; clear hb ho12) | ((with_reducible refine gate_dst (N := 17) rfl ?_); refine Kd.N_lit (Kd.slice 32 k32) _ 23 ?hg (N' := 17) ?hd (xs := ([l1, l4] : List (List (S32)))) (inner := [.slice A1 l1.length c1, .slice A4 l4.length c4]) (ok := (fun k_ => ((P0_1_ k_ ∨ P1_ k_ ∨ P4_ k_) ∨ w.heap.size ≤ k_) ∧ some k_ ≠ (v222 : Value).ownBlock ∧ k_ ≠ gb220)) (okp := (fun k_ => ((P0_1_ k_ ∨ P1_ k_ ∨ P4_ k_) ∨ w.heap.size ≤ k_) ∧ some k_ ≠ (v222 : Value).ownBlock ∧ k_ ≠ gb220)) ?hr ?hp (fun _ hk => hk) ((show ∀ k_, w11.heap.size ≤ k_ → (fun k_ => ((P0_1_ k_ ∨ P1_ k_ ∨ P4_ k_) ∨ w.heap.size ≤ k_) ∧ some k_ ≠ (v222 : Value).ownBlock ∧ k_ ≠ gb220) k_ from fun k_ hk => ⟨(.inr (Nat.le_trans (below_size (Hb HB.out)) hk)), Kd.fresh' (Kd.N_lt (Nb HO223.out)) k_ hk, Kd.freshB (Bb BK220.out) k_ hk⟩) _ (Nat.le_refl _)) (Below.refl _ _) (Nat.le_refl _) (by simp) ?_; (case hd => rfl); (case hg => rfl); (case hr => first | (go_simp; done) | (go_simp; rfl)); (case hp => exact (Reps.one (show Kd.FK (Kd.slice 32 k32) _ _ l1 [.slice A1 l1.length c1] from (Kd.FK_slice_mk (Kd.V_reads' HO1.out).2.1 (Kd.V_F (Kd.V_mono (Vb HO1.out) (fun k_ hk => ⟨hk.1.1, ⟨hk.2, hk.1.2⟩⟩))))) (Reps.one (show Kd.FK (Kd.slice 32 k32) _ _ l4 [.slice A4 l4.length c4] from (Kd.FK_slice_mk (Kd.V_reads' HO4.out).2.1 (Kd.V_F (Kd.V_mono (Vb HO4.out) (fun k_ hk => ⟨hk.1.1, ⟨hk.2, hk.1.2⟩⟩))))) (Reps.none _ _)))); intro v225 w13 ho14 hb hg_ hnew_; clear hg_ hnew_; (first | rw [← Ny224.out] at ho14 | (simp only [Int.reduceToNat] at ho14; rw [← Ny224.out] at ho14)); have n0_ := Aside0.mk (Kd.V_elder' (Vb HO0_1.out) (Kd.N_base ho14) hb); have n1_ := Aside0.mk (Kd.V_elder' (Vb HO1.out) (Kd.N_base ho14) hb); have n2_ := Aside0.mk (Kd.V_elder' (Vb HO4.out) (Kd.N_base ho14) hb); have n3_ := Aside0.mk (Kd.N_elder' (Nb HO223.out) (Kd.N_base ho14) hb); have n4_ := Aside0.mk (Kd.N_lower ho14 (below_size (Hb HB.out))); have n5_ := Aside0.mk (blk_below (Bb BK220.out) hb); have n6_ := Aside0.mk (below_step (Hb HB.out) hb); clear HO0_1; clear HO1; clear HO4; clear HO223; clear BK220; clear HB; have HO0_1 := n0_; have HO1 := n1_; have HO4 := n2_; have HO223 := n3_; have HO226 := n4_; have BK220 := n5_; have HB := n6_; clear n0_ n1_ n2_ n3_ n4_ n5_ n6_; clear hb ho14; obtain ⟨Ao15, co15, eo15⟩ := Kd.N_slice HO223.out; subst eo15; obtain ⟨Ao16, co16, eo16⟩ := Kd.N_slice HO226.out; subst eo16) | ((with_reducible refine gate_callee (f := 10) rfl ?_); refine goesL_ (some 18) rfl rfl Try.func10 (by kernel_rfl) rfl #[.slice Ao15 y221.length co15, .int .i64 a2, .slice Ao16 y224.length co16] rfl (by (try simp only [List.map_toArray, List.map_cons, List.map_nil]); first | done | rfl | (simp only [List.length_drop, List.length_take]; rfl)) ?_; (with_reducible refine (scrivenerlaw14_long.calls k _ _ y221 a2 _ _ y224 true _ ?side1 ?side2 ?side3 ?side4 A8.out).mono ?_); (case side1 => exact Cb (Kd.N_reads' HO223.out).2.2); (case side2 => exact (Kd.N_reads' HO223.out).2.1); (case side3 => exact Cb (Kd.N_reads' HO226.out).2.2); (case side4 => exact (Kd.N_reads' HO226.out).2.1); rintro e w17 ⟨rfl, hb⟩; refine ⟨_, rfl, ?_⟩; have n0_ := Aside0.mk (Kd.V_below (Vb HO0_1.out) hb); have n1_ := Aside0.mk (Kd.V_below (Vb HO1.out) hb); have n2_ := Aside0.mk (Kd.V_below (Vb HO4.out) hb); have n3_ := Aside0.mk (Kd.N_below (Nb HO223.out) hb); have n4_ := Aside0.mk (Kd.N_below (Nb HO226.out) hb); have n5_ := Aside0.mk (blk_below (Bb BK220.out) hb); have n6_ := Aside0.mk (below_step (Hb HB.out) hb); clear HO0_1; clear HO1; clear HO4; clear HO223; clear HO226; clear BK220; clear HB; have HO0_1 := n0_; have HO1 := n1_; have HO4 := n2_; have HO223 := n3_; have HO226 := n4_; have BK220 := n5_; have HB := n6_; clear n0_ n1_ n2_ n3_ n4_ n5_ n6_; (try clear hb); (try clear hb2); (try clear hk); (try clear hi)))
      go_meet
      case rel => exact ⟨_, (true), (by first | rfl | (simp; done) | (simp [*]; done)), H', ⟨by first | omega | exact Nat.le_refl _⟩, ⟨by (with_reducible repeat (first | apply Kd.V_alloc | apply Kd.V_drewN | apply Kd.V_drew)); exact Kd.V_mono HO1.out (fun _ hk => ⟨hk.1.1.1, hk.1.1.2⟩)⟩, ⟨by (with_reducible repeat (first | apply Kd.V_alloc | apply Kd.V_drewN | apply Kd.V_drew)); exact Kd.V_mono HO4.out (fun _ hk => ⟨hk.1.1.1, hk.1.1.2⟩)⟩, ⟨by (with_reducible repeat (first | apply Kd.V_alloc | apply Kd.V_drewN | apply Kd.V_drew)); exact Kd.V_mono HO0_1.out (fun _ hk => ⟨hk.1.1.1, hk.1.1.2⟩)⟩, ⟨by (with_reducible repeat (first | refine blk_drewN ?_ _ | refine blk_drew ?_ | refine blk_alloc ?_ _)); exact BK220.out⟩, ⟨by repeat (first | (with_reducible first | exact HB.out | apply below_alloc | apply pw_below_drewN | apply below_drew1 | refine below_set ?_ GE220.out) | exact HB.out)⟩⟩
    · replace c9 := Bool.eq_false_iff.mpr c9
      subst c9
      rw [if_neg (show ¬ (false = true) by decide)] at H
      by_cases c18 : a3 < (-1000)
      · rw [if_pos c18] at H
        have c18b0 : decide (a3 < (-1000)) = true := decide_eq_true c18
        clear c18
        (first | rw [c18b0] | (simp only [i64_w, i32_w]; rw [c18b0]) | skip)
        have H' := Aside0.mk H
        clear H
        have hcz19_0 : w7.cell? ⟨gb220, 0, none⟩ = some (.int .u64 a0_0) := (blk_cell BK220.out 0).trans rfl
        have hcz19_1 : w7.cell? ⟨gb220, 1, none⟩ = some (.slice A0_1 l0_1.length c0_1) := (blk_cell BK220.out 1).trans rfl
        have hfz19_0 := blk_frozen BK220.out 0
        have hfz19_1 := blk_frozen BK220.out 1
        go_wp2_with (first | ((with_reducible refine gate_dst (N := 13) rfl ?_); refine Kd.N_lit k25 _ 25 ?hg (N' := 13) ?hd (xs := ([(⟨a0_0, l0_1⟩ : S25)] : List (S25))) (inner := [.int .u64 a0_0, .slice A0_1 l0_1.length c0_1]) (ok := (fun k_ => ((P0_1_ k_ ∨ P1_ k_ ∨ P4_ k_) ∨ w.heap.size ≤ k_) ∧ k_ ≠ gb220)) (okp := (fun k_ => ((P0_1_ k_ ∨ P1_ k_ ∨ P4_ k_) ∨ w.heap.size ≤ k_) ∧ k_ ≠ gb220)) ?hr ?hp (fun _ hk => hk) ((show ∀ k_, w7.heap.size ≤ k_ → (fun k_ => ((P0_1_ k_ ∨ P1_ k_ ∨ P4_ k_) ∨ w.heap.size ≤ k_) ∧ k_ ≠ gb220) k_ from fun k_ hk => ⟨(.inr (Nat.le_trans (below_size (Hb HB.out)) hk)), Kd.freshB (Bb BK220.out) k_ hk⟩) _ (Nat.le_refl _)) (Below.refl _ _) (Nat.le_refl _) (by simp) ?_; (case hd => rfl); (case hg => rfl); (case hr => first | (go_simp; done) | (go_simp; rfl)); (case hp => exact (Reps.c2 (show Kd.FK k25 _ _ (⟨a0_0, l0_1⟩ : S25) [.int .u64 a0_0, .slice A0_1 l0_1.length c0_1] from (k25_mkF _ _ (⟨a0_0, l0_1⟩ : S25) (Kd.V_reads' HO0_1.out).2.1 (Kd.V_F (Kd.V_mono (Vb HO0_1.out) (fun k_ hk => ⟨hk.1, hk.2⟩))))) (Reps.none _ _))); intro v222 w20 ho21 hb hg_ hnew_; clear hg_ hnew_; (first | rw [← Ny221.out] at ho21 | (simp only [Int.reduceToNat] at ho21; rw [← Ny221.out] at ho21)); have n0_ := Aside0.mk (Kd.V_elder' (Vb HO0_1.out) (Kd.N_base ho21) hb); have n1_ := Aside0.mk (Kd.V_elder' (Vb HO1.out) (Kd.N_base ho21) hb); have n2_ := Aside0.mk (Kd.V_elder' (Vb HO4.out) (Kd.N_base ho21) hb); have n3_ := Aside0.mk (Kd.N_lower ho21 (below_size (Hb HB.out))); have n4_ := Aside0.mk (blk_below (Bb BK220.out) hb); have n5_ := Aside0.mk (below_step (Hb HB.out) hb); clear HO0_1; clear HO1; clear HO4; clear BK220; clear HB; have HO0_1 := n0_; have HO1 := n1_; have HO4 := n2_; have HO223 := n3_; have BK220 := n4_; have HB := n5_; clear n0_ n1_ n2_ n3_ n4_ n5_; clear hb ho21) | ((with_reducible refine gate_dst (N := 17) rfl ?_); refine Kd.N_lit (Kd.slice 32 k32) _ 23 ?hg (N' := 17) ?hd (xs := ([l1, l4] : List (List (S32)))) (inner := [.slice A1 l1.length c1, .slice A4 l4.length c4]) (ok := (fun k_ => ((P0_1_ k_ ∨ P1_ k_ ∨ P4_ k_) ∨ w.heap.size ≤ k_) ∧ some k_ ≠ (v222 : Value).ownBlock ∧ k_ ≠ gb220)) (okp := (fun k_ => ((P0_1_ k_ ∨ P1_ k_ ∨ P4_ k_) ∨ w.heap.size ≤ k_) ∧ some k_ ≠ (v222 : Value).ownBlock ∧ k_ ≠ gb220)) ?hr ?hp (fun _ hk => hk) ((show ∀ k_, w20.heap.size ≤ k_ → (fun k_ => ((P0_1_ k_ ∨ P1_ k_ ∨ P4_ k_) ∨ w.heap.size ≤ k_) ∧ some k_ ≠ (v222 : Value).ownBlock ∧ k_ ≠ gb220) k_ from fun k_ hk => ⟨(.inr (Nat.le_trans (below_size (Hb HB.out)) hk)), Kd.fresh' (Kd.N_lt (Nb HO223.out)) k_ hk, Kd.freshB (Bb BK220.out) k_ hk⟩) _ (Nat.le_refl _)) (Below.refl _ _) (Nat.le_refl _) (by simp) ?_; (case hd => rfl); (case hg => rfl); (case hr => first | (go_simp; done) | (go_simp; rfl)); (case hp => exact (Reps.one (show Kd.FK (Kd.slice 32 k32) _ _ l1 [.slice A1 l1.length c1] from (Kd.FK_slice_mk (Kd.V_reads' HO1.out).2.1 (Kd.V_F (Kd.V_mono (Vb HO1.out) (fun k_ hk => ⟨hk.1.1, ⟨hk.2, hk.1.2⟩⟩))))) (Reps.one (show Kd.FK (Kd.slice 32 k32) _ _ l4 [.slice A4 l4.length c4] from (Kd.FK_slice_mk (Kd.V_reads' HO4.out).2.1 (Kd.V_F (Kd.V_mono (Vb HO4.out) (fun k_ hk => ⟨hk.1.1, ⟨hk.2, hk.1.2⟩⟩))))) (Reps.none _ _)))); intro v225 w22 ho23 hb hg_ hnew_; clear hg_ hnew_; (first | rw [← Ny224.out] at ho23 | (simp only [Int.reduceToNat] at ho23; rw [← Ny224.out] at ho23)); have n0_ := Aside0.mk (Kd.V_elder' (Vb HO0_1.out) (Kd.N_base ho23) hb); have n1_ := Aside0.mk (Kd.V_elder' (Vb HO1.out) (Kd.N_base ho23) hb); have n2_ := Aside0.mk (Kd.V_elder' (Vb HO4.out) (Kd.N_base ho23) hb); have n3_ := Aside0.mk (Kd.N_elder' (Nb HO223.out) (Kd.N_base ho23) hb); have n4_ := Aside0.mk (Kd.N_lower ho23 (below_size (Hb HB.out))); have n5_ := Aside0.mk (blk_below (Bb BK220.out) hb); have n6_ := Aside0.mk (below_step (Hb HB.out) hb); clear HO0_1; clear HO1; clear HO4; clear HO223; clear BK220; clear HB; have HO0_1 := n0_; have HO1 := n1_; have HO4 := n2_; have HO223 := n3_; have HO226 := n4_; have BK220 := n5_; have HB := n6_; clear n0_ n1_ n2_ n3_ n4_ n5_ n6_; clear hb ho23; obtain ⟨Ao24, co24, eo24⟩ := Kd.N_slice HO223.out; subst eo24; obtain ⟨Ao25, co25, eo25⟩ := Kd.N_slice HO226.out; subst eo25) | ((with_reducible refine gate_callee (f := 10) rfl ?_); refine goesL_ (some 18) rfl rfl Try.func10 (by kernel_rfl) rfl #[.slice Ao24 y221.length co24, .int .i64 a2, .slice Ao25 y224.length co25] rfl (by (try simp only [List.map_toArray, List.map_cons, List.map_nil]); first | done | rfl | (simp only [List.length_drop, List.length_take]; rfl)) ?_; (with_reducible refine (scrivenerlaw14_long.calls k _ _ y221 a2 _ _ y224 false _ ?side1 ?side2 ?side3 ?side4 A8.out).mono ?_); (case side1 => exact Cb (Kd.N_reads' HO223.out).2.2); (case side2 => exact (Kd.N_reads' HO223.out).2.1); (case side3 => exact Cb (Kd.N_reads' HO226.out).2.2); (case side4 => exact (Kd.N_reads' HO226.out).2.1); rintro e w26 ⟨rfl, hb⟩; refine ⟨_, rfl, ?_⟩; have n0_ := Aside0.mk (Kd.V_below (Vb HO0_1.out) hb); have n1_ := Aside0.mk (Kd.V_below (Vb HO1.out) hb); have n2_ := Aside0.mk (Kd.V_below (Vb HO4.out) hb); have n3_ := Aside0.mk (Kd.N_below (Nb HO223.out) hb); have n4_ := Aside0.mk (Kd.N_below (Nb HO226.out) hb); have n5_ := Aside0.mk (blk_below (Bb BK220.out) hb); have n6_ := Aside0.mk (below_step (Hb HB.out) hb); clear HO0_1; clear HO1; clear HO4; clear HO223; clear HO226; clear BK220; clear HB; have HO0_1 := n0_; have HO1 := n1_; have HO4 := n2_; have HO223 := n3_; have HO226 := n4_; have BK220 := n5_; have HB := n6_; clear n0_ n1_ n2_ n3_ n4_ n5_ n6_; (try clear hb); (try clear hb2); (try clear hk); (try clear hi)))
        go_meet
        case rel => exact ⟨_, (true), (by first | rfl | (simp; done) | (simp [*]; done)), H', ⟨by first | omega | exact Nat.le_refl _⟩, ⟨by (with_reducible repeat (first | apply Kd.V_alloc | apply Kd.V_drewN | apply Kd.V_drew)); exact Kd.V_mono HO1.out (fun _ hk => ⟨hk.1.1.1, hk.1.1.2⟩)⟩, ⟨by (with_reducible repeat (first | apply Kd.V_alloc | apply Kd.V_drewN | apply Kd.V_drew)); exact Kd.V_mono HO4.out (fun _ hk => ⟨hk.1.1.1, hk.1.1.2⟩)⟩, ⟨by (with_reducible repeat (first | apply Kd.V_alloc | apply Kd.V_drewN | apply Kd.V_drew)); exact Kd.V_mono HO0_1.out (fun _ hk => ⟨hk.1.1.1, hk.1.1.2⟩)⟩, ⟨by (with_reducible repeat (first | refine blk_drewN ?_ _ | refine blk_drew ?_ | refine blk_alloc ?_ _)); exact BK220.out⟩, ⟨by repeat (first | (with_reducible first | exact HB.out | apply below_alloc | apply pw_below_drewN | apply below_drew1 | refine below_set ?_ GE220.out) | exact HB.out)⟩⟩
      · rw [if_neg c18] at H
        have c18b0 : decide (a3 < (-1000)) = false := decide_eq_false c18
        clear c18
        (first | rw [c18b0] | (simp only [i64_w, i32_w]; rw [c18b0]) | skip)
        by_cases c27 : a3 > 1000
        · rw [if_pos c27] at H
          have c27b0 : decide (1000 < a3) = true := decide_eq_true c27
          clear c27
          have H' := Aside0.mk H
          clear H
          have hcz28_0 : w7.cell? ⟨gb220, 0, none⟩ = some (.int .u64 a0_0) := (blk_cell BK220.out 0).trans rfl
          have hcz28_1 : w7.cell? ⟨gb220, 1, none⟩ = some (.slice A0_1 l0_1.length c0_1) := (blk_cell BK220.out 1).trans rfl
          have hfz28_0 := blk_frozen BK220.out 0
          have hfz28_1 := blk_frozen BK220.out 1
          go_wp2_with (first | ((with_reducible refine gate_dst (N := 13) rfl ?_); refine Kd.N_lit k25 _ 25 ?hg (N' := 13) ?hd (xs := ([(⟨a0_0, l0_1⟩ : S25)] : List (S25))) (inner := [.int .u64 a0_0, .slice A0_1 l0_1.length c0_1]) (ok := (fun k_ => ((P0_1_ k_ ∨ P1_ k_ ∨ P4_ k_) ∨ w.heap.size ≤ k_) ∧ k_ ≠ gb220)) (okp := (fun k_ => ((P0_1_ k_ ∨ P1_ k_ ∨ P4_ k_) ∨ w.heap.size ≤ k_) ∧ k_ ≠ gb220)) ?hr ?hp (fun _ hk => hk) ((show ∀ k_, w7.heap.size ≤ k_ → (fun k_ => ((P0_1_ k_ ∨ P1_ k_ ∨ P4_ k_) ∨ w.heap.size ≤ k_) ∧ k_ ≠ gb220) k_ from fun k_ hk => ⟨(.inr (Nat.le_trans (below_size (Hb HB.out)) hk)), Kd.freshB (Bb BK220.out) k_ hk⟩) _ (Nat.le_refl _)) (Below.refl _ _) (Nat.le_refl _) (by simp) ?_; (case hd => rfl); (case hg => rfl); (case hr => first | (go_simp; done) | (go_simp; rfl)); (case hp => exact (Reps.c2 (show Kd.FK k25 _ _ (⟨a0_0, l0_1⟩ : S25) [.int .u64 a0_0, .slice A0_1 l0_1.length c0_1] from (k25_mkF _ _ (⟨a0_0, l0_1⟩ : S25) (Kd.V_reads' HO0_1.out).2.1 (Kd.V_F (Kd.V_mono (Vb HO0_1.out) (fun k_ hk => ⟨hk.1, hk.2⟩))))) (Reps.none _ _))); intro v222 w29 ho30 hb hg_ hnew_; clear hg_ hnew_; (first | rw [← Ny221.out] at ho30 | (simp only [Int.reduceToNat] at ho30; rw [← Ny221.out] at ho30)); have n0_ := Aside0.mk (Kd.V_elder' (Vb HO0_1.out) (Kd.N_base ho30) hb); have n1_ := Aside0.mk (Kd.V_elder' (Vb HO1.out) (Kd.N_base ho30) hb); have n2_ := Aside0.mk (Kd.V_elder' (Vb HO4.out) (Kd.N_base ho30) hb); have n3_ := Aside0.mk (Kd.N_lower ho30 (below_size (Hb HB.out))); have n4_ := Aside0.mk (blk_below (Bb BK220.out) hb); have n5_ := Aside0.mk (below_step (Hb HB.out) hb); clear HO0_1; clear HO1; clear HO4; clear BK220; clear HB; have HO0_1 := n0_; have HO1 := n1_; have HO4 := n2_; have HO223 := n3_; have BK220 := n4_; have HB := n5_; clear n0_ n1_ n2_ n3_ n4_ n5_; clear hb ho30) | ((with_reducible refine gate_dst (N := 17) rfl ?_); refine Kd.N_lit (Kd.slice 32 k32) _ 23 ?hg (N' := 17) ?hd (xs := ([l1, l4] : List (List (S32)))) (inner := [.slice A1 l1.length c1, .slice A4 l4.length c4]) (ok := (fun k_ => ((P0_1_ k_ ∨ P1_ k_ ∨ P4_ k_) ∨ w.heap.size ≤ k_) ∧ some k_ ≠ (v222 : Value).ownBlock ∧ k_ ≠ gb220)) (okp := (fun k_ => ((P0_1_ k_ ∨ P1_ k_ ∨ P4_ k_) ∨ w.heap.size ≤ k_) ∧ some k_ ≠ (v222 : Value).ownBlock ∧ k_ ≠ gb220)) ?hr ?hp (fun _ hk => hk) ((show ∀ k_, w29.heap.size ≤ k_ → (fun k_ => ((P0_1_ k_ ∨ P1_ k_ ∨ P4_ k_) ∨ w.heap.size ≤ k_) ∧ some k_ ≠ (v222 : Value).ownBlock ∧ k_ ≠ gb220) k_ from fun k_ hk => ⟨(.inr (Nat.le_trans (below_size (Hb HB.out)) hk)), Kd.fresh' (Kd.N_lt (Nb HO223.out)) k_ hk, Kd.freshB (Bb BK220.out) k_ hk⟩) _ (Nat.le_refl _)) (Below.refl _ _) (Nat.le_refl _) (by simp) ?_; (case hd => rfl); (case hg => rfl); (case hr => first | (go_simp; done) | (go_simp; rfl)); (case hp => exact (Reps.one (show Kd.FK (Kd.slice 32 k32) _ _ l1 [.slice A1 l1.length c1] from (Kd.FK_slice_mk (Kd.V_reads' HO1.out).2.1 (Kd.V_F (Kd.V_mono (Vb HO1.out) (fun k_ hk => ⟨hk.1.1, ⟨hk.2, hk.1.2⟩⟩))))) (Reps.one (show Kd.FK (Kd.slice 32 k32) _ _ l4 [.slice A4 l4.length c4] from (Kd.FK_slice_mk (Kd.V_reads' HO4.out).2.1 (Kd.V_F (Kd.V_mono (Vb HO4.out) (fun k_ hk => ⟨hk.1.1, ⟨hk.2, hk.1.2⟩⟩))))) (Reps.none _ _)))); intro v225 w31 ho32 hb hg_ hnew_; clear hg_ hnew_; (first | rw [← Ny224.out] at ho32 | (simp only [Int.reduceToNat] at ho32; rw [← Ny224.out] at ho32)); have n0_ := Aside0.mk (Kd.V_elder' (Vb HO0_1.out) (Kd.N_base ho32) hb); have n1_ := Aside0.mk (Kd.V_elder' (Vb HO1.out) (Kd.N_base ho32) hb); have n2_ := Aside0.mk (Kd.V_elder' (Vb HO4.out) (Kd.N_base ho32) hb); have n3_ := Aside0.mk (Kd.N_elder' (Nb HO223.out) (Kd.N_base ho32) hb); have n4_ := Aside0.mk (Kd.N_lower ho32 (below_size (Hb HB.out))); have n5_ := Aside0.mk (blk_below (Bb BK220.out) hb); have n6_ := Aside0.mk (below_step (Hb HB.out) hb); clear HO0_1; clear HO1; clear HO4; clear HO223; clear BK220; clear HB; have HO0_1 := n0_; have HO1 := n1_; have HO4 := n2_; have HO223 := n3_; have HO226 := n4_; have BK220 := n5_; have HB := n6_; clear n0_ n1_ n2_ n3_ n4_ n5_ n6_; clear hb ho32; obtain ⟨Ao33, co33, eo33⟩ := Kd.N_slice HO223.out; subst eo33; obtain ⟨Ao34, co34, eo34⟩ := Kd.N_slice HO226.out; subst eo34) | ((with_reducible refine gate_callee (f := 10) rfl ?_); refine goesL_ (some 18) rfl rfl Try.func10 (by kernel_rfl) rfl #[.slice Ao33 y221.length co33, .int .i64 a2, .slice Ao34 y224.length co34] rfl (by (try simp only [List.map_toArray, List.map_cons, List.map_nil]); first | done | rfl | (simp only [List.length_drop, List.length_take]; rfl)) ?_; (with_reducible refine (scrivenerlaw14_long.calls k _ _ y221 a2 _ _ y224 false _ ?side1 ?side2 ?side3 ?side4 A8.out).mono ?_); (case side1 => exact Cb (Kd.N_reads' HO223.out).2.2); (case side2 => exact (Kd.N_reads' HO223.out).2.1); (case side3 => exact Cb (Kd.N_reads' HO226.out).2.2); (case side4 => exact (Kd.N_reads' HO226.out).2.1); rintro e w35 ⟨rfl, hb⟩; refine ⟨_, rfl, ?_⟩; have n0_ := Aside0.mk (Kd.V_below (Vb HO0_1.out) hb); have n1_ := Aside0.mk (Kd.V_below (Vb HO1.out) hb); have n2_ := Aside0.mk (Kd.V_below (Vb HO4.out) hb); have n3_ := Aside0.mk (Kd.N_below (Nb HO223.out) hb); have n4_ := Aside0.mk (Kd.N_below (Nb HO226.out) hb); have n5_ := Aside0.mk (blk_below (Bb BK220.out) hb); have n6_ := Aside0.mk (below_step (Hb HB.out) hb); clear HO0_1; clear HO1; clear HO4; clear HO223; clear HO226; clear BK220; clear HB; have HO0_1 := n0_; have HO1 := n1_; have HO4 := n2_; have HO223 := n3_; have HO226 := n4_; have BK220 := n5_; have HB := n6_; clear n0_ n1_ n2_ n3_ n4_ n5_ n6_; (try clear hb); (try clear hb2); (try clear hk); (try clear hi)))
          go_meet
          case rel => exact ⟨_, (true), (by first | rfl | (simp; done) | (simp [*]; done)), H', ⟨by first | omega | exact Nat.le_refl _⟩, ⟨by (with_reducible repeat (first | apply Kd.V_alloc | apply Kd.V_drewN | apply Kd.V_drew)); exact Kd.V_mono HO1.out (fun _ hk => ⟨hk.1.1.1, hk.1.1.2⟩)⟩, ⟨by (with_reducible repeat (first | apply Kd.V_alloc | apply Kd.V_drewN | apply Kd.V_drew)); exact Kd.V_mono HO4.out (fun _ hk => ⟨hk.1.1.1, hk.1.1.2⟩)⟩, ⟨by (with_reducible repeat (first | apply Kd.V_alloc | apply Kd.V_drewN | apply Kd.V_drew)); exact Kd.V_mono HO0_1.out (fun _ hk => ⟨hk.1.1.1, hk.1.1.2⟩)⟩, ⟨by (with_reducible repeat (first | refine blk_drewN ?_ _ | refine blk_drew ?_ | refine blk_alloc ?_ _)); exact BK220.out⟩, ⟨by repeat (first | (with_reducible first | exact HB.out | apply below_alloc | apply pw_below_drewN | apply below_drew1 | refine below_set ?_ GE220.out) | exact HB.out)⟩⟩
        · rw [if_neg c27] at H
          have c27b0 : decide (1000 < a3) = false := decide_eq_false c27
          clear c27
          have H' := Aside0.mk H
          clear H
          have hcz36_0 : w7.cell? ⟨gb220, 0, none⟩ = some (.int .u64 a0_0) := (blk_cell BK220.out 0).trans rfl
          have hcz36_1 : w7.cell? ⟨gb220, 1, none⟩ = some (.slice A0_1 l0_1.length c0_1) := (blk_cell BK220.out 1).trans rfl
          have hfz36_0 := blk_frozen BK220.out 0
          have hfz36_1 := blk_frozen BK220.out 1
          go_wp2_with (first | ((with_reducible refine gate_dst (N := 13) rfl ?_); refine Kd.N_lit k25 _ 25 ?hg (N' := 13) ?hd (xs := ([(⟨a0_0, l0_1⟩ : S25)] : List (S25))) (inner := [.int .u64 a0_0, .slice A0_1 l0_1.length c0_1]) (ok := (fun k_ => ((P0_1_ k_ ∨ P1_ k_ ∨ P4_ k_) ∨ w.heap.size ≤ k_) ∧ k_ ≠ gb220)) (okp := (fun k_ => ((P0_1_ k_ ∨ P1_ k_ ∨ P4_ k_) ∨ w.heap.size ≤ k_) ∧ k_ ≠ gb220)) ?hr ?hp (fun _ hk => hk) ((show ∀ k_, w7.heap.size ≤ k_ → (fun k_ => ((P0_1_ k_ ∨ P1_ k_ ∨ P4_ k_) ∨ w.heap.size ≤ k_) ∧ k_ ≠ gb220) k_ from fun k_ hk => ⟨(.inr (Nat.le_trans (below_size (Hb HB.out)) hk)), Kd.freshB (Bb BK220.out) k_ hk⟩) _ (Nat.le_refl _)) (Below.refl _ _) (Nat.le_refl _) (by simp) ?_; (case hd => rfl); (case hg => rfl); (case hr => first | (go_simp; done) | (go_simp; rfl)); (case hp => exact (Reps.c2 (show Kd.FK k25 _ _ (⟨a0_0, l0_1⟩ : S25) [.int .u64 a0_0, .slice A0_1 l0_1.length c0_1] from (k25_mkF _ _ (⟨a0_0, l0_1⟩ : S25) (Kd.V_reads' HO0_1.out).2.1 (Kd.V_F (Kd.V_mono (Vb HO0_1.out) (fun k_ hk => ⟨hk.1, hk.2⟩))))) (Reps.none _ _))); intro v222 w37 ho38 hb hg_ hnew_; clear hg_ hnew_; (first | rw [← Ny221.out] at ho38 | (simp only [Int.reduceToNat] at ho38; rw [← Ny221.out] at ho38)); have n0_ := Aside0.mk (Kd.V_elder' (Vb HO0_1.out) (Kd.N_base ho38) hb); have n1_ := Aside0.mk (Kd.V_elder' (Vb HO1.out) (Kd.N_base ho38) hb); have n2_ := Aside0.mk (Kd.V_elder' (Vb HO4.out) (Kd.N_base ho38) hb); have n3_ := Aside0.mk (Kd.N_lower ho38 (below_size (Hb HB.out))); have n4_ := Aside0.mk (blk_below (Bb BK220.out) hb); have n5_ := Aside0.mk (below_step (Hb HB.out) hb); clear HO0_1; clear HO1; clear HO4; clear BK220; clear HB; have HO0_1 := n0_; have HO1 := n1_; have HO4 := n2_; have HO223 := n3_; have BK220 := n4_; have HB := n5_; clear n0_ n1_ n2_ n3_ n4_ n5_; clear hb ho38) | ((with_reducible refine gate_dst (N := 17) rfl ?_); refine Kd.N_lit (Kd.slice 32 k32) _ 23 ?hg (N' := 17) ?hd (xs := ([l1, l4] : List (List (S32)))) (inner := [.slice A1 l1.length c1, .slice A4 l4.length c4]) (ok := (fun k_ => ((P0_1_ k_ ∨ P1_ k_ ∨ P4_ k_) ∨ w.heap.size ≤ k_) ∧ some k_ ≠ (v222 : Value).ownBlock ∧ k_ ≠ gb220)) (okp := (fun k_ => ((P0_1_ k_ ∨ P1_ k_ ∨ P4_ k_) ∨ w.heap.size ≤ k_) ∧ some k_ ≠ (v222 : Value).ownBlock ∧ k_ ≠ gb220)) ?hr ?hp (fun _ hk => hk) ((show ∀ k_, w37.heap.size ≤ k_ → (fun k_ => ((P0_1_ k_ ∨ P1_ k_ ∨ P4_ k_) ∨ w.heap.size ≤ k_) ∧ some k_ ≠ (v222 : Value).ownBlock ∧ k_ ≠ gb220) k_ from fun k_ hk => ⟨(.inr (Nat.le_trans (below_size (Hb HB.out)) hk)), Kd.fresh' (Kd.N_lt (Nb HO223.out)) k_ hk, Kd.freshB (Bb BK220.out) k_ hk⟩) _ (Nat.le_refl _)) (Below.refl _ _) (Nat.le_refl _) (by simp) ?_; (case hd => rfl); (case hg => rfl); (case hr => first | (go_simp; done) | (go_simp; rfl)); (case hp => exact (Reps.one (show Kd.FK (Kd.slice 32 k32) _ _ l1 [.slice A1 l1.length c1] from (Kd.FK_slice_mk (Kd.V_reads' HO1.out).2.1 (Kd.V_F (Kd.V_mono (Vb HO1.out) (fun k_ hk => ⟨hk.1.1, ⟨hk.2, hk.1.2⟩⟩))))) (Reps.one (show Kd.FK (Kd.slice 32 k32) _ _ l4 [.slice A4 l4.length c4] from (Kd.FK_slice_mk (Kd.V_reads' HO4.out).2.1 (Kd.V_F (Kd.V_mono (Vb HO4.out) (fun k_ hk => ⟨hk.1.1, ⟨hk.2, hk.1.2⟩⟩))))) (Reps.none _ _)))); intro v225 w39 ho40 hb hg_ hnew_; clear hg_ hnew_; (first | rw [← Ny224.out] at ho40 | (simp only [Int.reduceToNat] at ho40; rw [← Ny224.out] at ho40)); have n0_ := Aside0.mk (Kd.V_elder' (Vb HO0_1.out) (Kd.N_base ho40) hb); have n1_ := Aside0.mk (Kd.V_elder' (Vb HO1.out) (Kd.N_base ho40) hb); have n2_ := Aside0.mk (Kd.V_elder' (Vb HO4.out) (Kd.N_base ho40) hb); have n3_ := Aside0.mk (Kd.N_elder' (Nb HO223.out) (Kd.N_base ho40) hb); have n4_ := Aside0.mk (Kd.N_lower ho40 (below_size (Hb HB.out))); have n5_ := Aside0.mk (blk_below (Bb BK220.out) hb); have n6_ := Aside0.mk (below_step (Hb HB.out) hb); clear HO0_1; clear HO1; clear HO4; clear HO223; clear BK220; clear HB; have HO0_1 := n0_; have HO1 := n1_; have HO4 := n2_; have HO223 := n3_; have HO226 := n4_; have BK220 := n5_; have HB := n6_; clear n0_ n1_ n2_ n3_ n4_ n5_ n6_; clear hb ho40; obtain ⟨Ao41, co41, eo41⟩ := Kd.N_slice HO223.out; subst eo41; obtain ⟨Ao42, co42, eo42⟩ := Kd.N_slice HO226.out; subst eo42) | ((with_reducible refine gate_callee (f := 10) rfl ?_); refine goesL_ (some 18) rfl rfl Try.func10 (by kernel_rfl) rfl #[.slice Ao41 y221.length co41, .int .i64 a2, .slice Ao42 y224.length co42] rfl (by (try simp only [List.map_toArray, List.map_cons, List.map_nil]); first | done | rfl | (simp only [List.length_drop, List.length_take]; rfl)) ?_; (with_reducible refine (scrivenerlaw14_long.calls k _ _ y221 a2 _ _ y224 false _ ?side1 ?side2 ?side3 ?side4 A8.out).mono ?_); (case side1 => exact Cb (Kd.N_reads' HO223.out).2.2); (case side2 => exact (Kd.N_reads' HO223.out).2.1); (case side3 => exact Cb (Kd.N_reads' HO226.out).2.2); (case side4 => exact (Kd.N_reads' HO226.out).2.1); rintro e w43 ⟨rfl, hb⟩; refine ⟨_, rfl, ?_⟩; have n0_ := Aside0.mk (Kd.V_below (Vb HO0_1.out) hb); have n1_ := Aside0.mk (Kd.V_below (Vb HO1.out) hb); have n2_ := Aside0.mk (Kd.V_below (Vb HO4.out) hb); have n3_ := Aside0.mk (Kd.N_below (Nb HO223.out) hb); have n4_ := Aside0.mk (Kd.N_below (Nb HO226.out) hb); have n5_ := Aside0.mk (blk_below (Bb BK220.out) hb); have n6_ := Aside0.mk (below_step (Hb HB.out) hb); clear HO0_1; clear HO1; clear HO4; clear HO223; clear HO226; clear BK220; clear HB; have HO0_1 := n0_; have HO1 := n1_; have HO4 := n2_; have HO223 := n3_; have HO226 := n4_; have BK220 := n5_; have HB := n6_; clear n0_ n1_ n2_ n3_ n4_ n5_ n6_; (try clear hb); (try clear hb2); (try clear hk); (try clear hi)))
          go_meet
          case rel => exact ⟨_, (decide (a2 < (-1000))), (by first | rfl | (simp; done) | (simp [*]; done)), H', ⟨by first | omega | exact Nat.le_refl _⟩, ⟨by (with_reducible repeat (first | apply Kd.V_alloc | apply Kd.V_drewN | apply Kd.V_drew)); exact Kd.V_mono HO1.out (fun _ hk => ⟨hk.1.1.1, hk.1.1.2⟩)⟩, ⟨by (with_reducible repeat (first | apply Kd.V_alloc | apply Kd.V_drewN | apply Kd.V_drew)); exact Kd.V_mono HO4.out (fun _ hk => ⟨hk.1.1.1, hk.1.1.2⟩)⟩, ⟨by (with_reducible repeat (first | apply Kd.V_alloc | apply Kd.V_drewN | apply Kd.V_drew)); exact Kd.V_mono HO0_1.out (fun _ hk => ⟨hk.1.1.1, hk.1.1.2⟩)⟩, ⟨by (with_reducible repeat (first | refine blk_drewN ?_ _ | refine blk_drew ?_ | refine blk_alloc ?_ _)); exact BK220.out⟩, ⟨by repeat (first | (with_reducible first | exact HB.out | apply below_alloc | apply pw_below_drewN | apply below_drew1 | refine below_set ?_ GE220.out) | exact HB.out)⟩⟩
  case rest =>
    clear HC6
    try clear c1
    try clear c2
    try clear p2
    try clear c4
    try clear c5
    try clear c9
    try clear c10
    try clear c18
    try clear c18b0
    try clear c27
    try clear c27b0
    try clear hcz10_0
    try clear hcz10_1
    try clear hcz19_0
    try clear hcz19_1
    try clear hcz28_0
    try clear hcz28_1
    try clear hcz36_0
    try clear hcz36_1
    try clear hfz10_0
    try clear hfz10_1
    try clear hfz19_0
    try clear hfz19_1
    try clear hfz28_0
    try clear hfz28_1
    try clear hfz36_0
    try clear hfz36_1
    obtain ⟨kq, x30_5, rfl, HA, HJ5, HO_1, HO_4, HO_221001, BK220, HB⟩ := hcut
    cases kq with
    | zero => exact absurd HA.out (by simp [scrivenerlaw14_StripeCounts.j0])
    | succ kj5 =>
      have H := HA.out
      clear HA
      simp only [scrivenerlaw14_StripeCounts.j0] at H
      by_cases c44 : x30_5 = true
      · subst c44
        rw [if_pos rfl] at H
        replace H := Option.bind_eq_some_iff.mp H
        obtain ⟨t228, A450, H⟩ := H
        replace H : (some t228) = some r := H
        have A45 := Aside0.mk A450
        clear A450
        obtain rfl := Option.some.inj H
        go_wp2_with (first | ((with_reducible refine gate_callee (f := 12) rfl ?_); refine goesL_ (some 31) rfl rfl Try.func12 (by kernel_rfl) rfl #[] rfl (by (try simp only [List.map_toArray, List.map_cons, List.map_nil]); first | done | rfl | (simp only [List.length_drop, List.length_take]; rfl)) ?_; (with_reducible refine (scrivenerlaw14_awake.calls  t228 _ A45.out).mono ?_); rintro e w46 ⟨rfl, hb⟩; refine ⟨_, rfl, ?_⟩; have n0_ := Aside0.mk (Kd.V_below (Vb HO_1.out) hb); have n1_ := Aside0.mk (Kd.V_below (Vb HO_4.out) hb); have n2_ := Aside0.mk (Kd.V_below (Vb HO_221001.out) hb); have n3_ := Aside0.mk (blk_below (Bb BK220.out) hb); have n4_ := Aside0.mk (below_step (Hb HB.out) hb); clear HO_1; clear HO_4; clear HO_221001; clear BK220; clear HB; have HO_1 := n0_; have HO_4 := n1_; have HO_221001 := n2_; have BK220 := n3_; have HB := n4_; clear n0_ n1_ n2_ n3_ n4_; (try clear hb); (try clear hb2); (try clear hk); (try clear hi)))
        go_ret
        exact ⟨by first | rfl | (simp [errW_none, errW_some] <;> rfl) | (simp [*, errW_none, errW_some] <;> rfl), by repeat (first | (with_reducible first | exact HB.out | apply below_alloc | apply pw_below_drewN | apply below_drew1 | refine below_set ?_ GE220.out) | exact HB.out)⟩
      · replace c44 := Bool.eq_false_iff.mpr c44
        subst c44
        rw [if_neg (show ¬ (false = true) by decide)] at H
        obtain ⟨y229, hy229⟩ : ∃ y_ : List (S32), y_ = (([] : List (S32))) := ⟨_, rfl⟩
        replace H : (if y229.length + l4.length < 8796093022208 then ((some (y229 ++ l4 : List (S32))).bind fun y232 => ((stripe_Acked.f kj5 l1 a3 y232).bind fun t235 => ((scrivenerref14_Acked.f kj5 l1 a3 l4).bind fun t236 => (if (t235 == t236) = true then ((stripe_Missing.f kj5 l1 a2 a3 y232).bind fun t237 => ((scrivenerref14_Missing.f kj5 l1 a2 a3 l4).bind fun t238 => (if (t237 == t238) = true then ((stripe_Covered.f a0_0 l0_1 a2 a3 y232).bind fun t239 => ((scrivenerref14_Covered.f kj5 a0_0 l0_1 a2 a3 l4).bind fun t240 => (if (t239 == t240) = true then ((scrivenerlaw14_awake.f).bind fun t241 => (some t241)) else (some false)))) else (some false)))) else (some false))))) else (none)) = some r := by first | (rw [hy229]; with_reducible exact H) | (have H2_ := (Option.bind_some _ _).symm.trans H; rw [hy229]; with_reducible exact H2_) | (have H2_ := (Option.bind_some _ _).symm.trans H; with_reducible exact H2_) | with_reducible exact H | (rw [hy229]; exact H) | exact H
        have Ny229 := Aside0.mk hy229
        clear hy229
        by_cases c47 : y229.length + l4.length < 8796093022208
        · rw [if_pos c47] at H
          have LMc47 := Aside0.mk c47
          clear c47
          obtain ⟨y232, hy232⟩ : ∃ y_ : List (S32), y_ = (y229 ++ l4) := ⟨_, rfl⟩
          replace H : ((stripe_Acked.f kj5 l1 a3 y232).bind fun t235 => ((scrivenerref14_Acked.f kj5 l1 a3 l4).bind fun t236 => (if (t235 == t236) = true then ((stripe_Missing.f kj5 l1 a2 a3 y232).bind fun t237 => ((scrivenerref14_Missing.f kj5 l1 a2 a3 l4).bind fun t238 => (if (t237 == t238) = true then ((stripe_Covered.f a0_0 l0_1 a2 a3 y232).bind fun t239 => ((scrivenerref14_Covered.f kj5 a0_0 l0_1 a2 a3 l4).bind fun t240 => (if (t239 == t240) = true then ((scrivenerlaw14_awake.f).bind fun t241 => (some t241)) else (some false)))) else (some false)))) else (some false)))) = some r := by first | (rw [hy232]; with_reducible exact H) | (have H2_ := (Option.bind_some _ _).symm.trans H; rw [hy232]; with_reducible exact H2_) | (have H2_ := (Option.bind_some _ _).symm.trans H; with_reducible exact H2_) | with_reducible exact H | (rw [hy232]; exact H) | exact H
          have Ny232 := Aside0.mk hy232
          clear hy232
          replace H := Option.bind_eq_some_iff.mp H
          obtain ⟨t235, A480, H⟩ := H
          replace H : ((scrivenerref14_Acked.f kj5 l1 a3 l4).bind fun t236 => (if (t235 == t236) = true then ((stripe_Missing.f kj5 l1 a2 a3 y232).bind fun t237 => ((scrivenerref14_Missing.f kj5 l1 a2 a3 l4).bind fun t238 => (if (t237 == t238) = true then ((stripe_Covered.f a0_0 l0_1 a2 a3 y232).bind fun t239 => ((scrivenerref14_Covered.f kj5 a0_0 l0_1 a2 a3 l4).bind fun t240 => (if (t239 == t240) = true then ((scrivenerlaw14_awake.f).bind fun t241 => (some t241)) else (some false)))) else (some false)))) else (some false))) = some r := H
          have A48 := Aside0.mk A480
          clear A480
          replace H := Option.bind_eq_some_iff.mp H
          obtain ⟨t236, A490, H⟩ := H
          replace H : (if (t235 == t236) = true then ((stripe_Missing.f kj5 l1 a2 a3 y232).bind fun t237 => ((scrivenerref14_Missing.f kj5 l1 a2 a3 l4).bind fun t238 => (if (t237 == t238) = true then ((stripe_Covered.f a0_0 l0_1 a2 a3 y232).bind fun t239 => ((scrivenerref14_Covered.f kj5 a0_0 l0_1 a2 a3 l4).bind fun t240 => (if (t239 == t240) = true then ((scrivenerlaw14_awake.f).bind fun t241 => (some t241)) else (some false)))) else (some false)))) else (some false)) = some r := H
          have A49 := Aside0.mk A490
          clear A490
          by_cases c50 : (t235 == t236) = true
          · rw [if_pos c50] at H
            have c50b0 : (t235 == t236) = true := c50
            (try (have c50b1 : decide (t235 = t236) = true := by simpa using c50))
            (try (have c50b2 : (t235 == t236) = true := by simpa using c50))
            clear c50
            replace H := Option.bind_eq_some_iff.mp H
            obtain ⟨t237, A510, H⟩ := H
            replace H : ((scrivenerref14_Missing.f kj5 l1 a2 a3 l4).bind fun t238 => (if (t237 == t238) = true then ((stripe_Covered.f a0_0 l0_1 a2 a3 y232).bind fun t239 => ((scrivenerref14_Covered.f kj5 a0_0 l0_1 a2 a3 l4).bind fun t240 => (if (t239 == t240) = true then ((scrivenerlaw14_awake.f).bind fun t241 => (some t241)) else (some false)))) else (some false))) = some r := H
            have A51 := Aside0.mk A510
            clear A510
            replace H := Option.bind_eq_some_iff.mp H
            obtain ⟨t238, A520, H⟩ := H
            replace H : (if (t237 == t238) = true then ((stripe_Covered.f a0_0 l0_1 a2 a3 y232).bind fun t239 => ((scrivenerref14_Covered.f kj5 a0_0 l0_1 a2 a3 l4).bind fun t240 => (if (t239 == t240) = true then ((scrivenerlaw14_awake.f).bind fun t241 => (some t241)) else (some false)))) else (some false)) = some r := H
            have A52 := Aside0.mk A520
            clear A520
            by_cases c53 : (t237 == t238) = true
            · rw [if_pos c53] at H
              have c53b0 : (t237 == t238) = true := c53
              (try (have c53b1 : decide (t237 = t238) = true := by simpa using c53))
              (try (have c53b2 : (t237 == t238) = true := by simpa using c53))
              clear c53
              replace H := Option.bind_eq_some_iff.mp H
              obtain ⟨t239, A540, H⟩ := H
              replace H : ((scrivenerref14_Covered.f kj5 a0_0 l0_1 a2 a3 l4).bind fun t240 => (if (t239 == t240) = true then ((scrivenerlaw14_awake.f).bind fun t241 => (some t241)) else (some false))) = some r := H
              have A54 := Aside0.mk A540
              clear A540
              replace H := Option.bind_eq_some_iff.mp H
              obtain ⟨t240, A550, H⟩ := H
              replace H : (if (t239 == t240) = true then ((scrivenerlaw14_awake.f).bind fun t241 => (some t241)) else (some false)) = some r := H
              have A55 := Aside0.mk A550
              clear A550
              by_cases c56 : (t239 == t240) = true
              · rw [if_pos c56] at H
                have c56b0 : (t239 == t240) = true := c56
                (try (have c56b1 : decide (t239 = t240) = true := by simpa using c56))
                (try (have c56b2 : (t239 == t240) = true := by simpa using c56))
                clear c56
                replace H := Option.bind_eq_some_iff.mp H
                obtain ⟨t241, A570, H⟩ := H
                replace H : (some t241) = some r := H
                have A57 := Aside0.mk A570
                clear A570
                obtain rfl := Option.some.inj H
                try go_wp2_with (first | ((with_reducible refine gate_dst (N := 32) rfl ?_); refine Kd.R_lit k32 _ 32 ?hg (N := 32) ?hd (xs := ([] : List (S32))) (inner := []) (ok := fun _ => True) (okp := fun _ => True) ?hr ?hp (fun _ hk => hk) trivial (Below.refl _ _) (Nat.le_refl _) (by simp) ?_; (case hd => rfl); (case hg => rfl); (case hr => first | (go_simp; done) | (go_simp; rfl)); (case hp => exact (Reps.none _ _)); intro v230 w58 ho59 hb hg_ hnew_; clear hg_ hnew_; (first | rw [← Ny229.out] at ho59 | (simp only [Int.reduceToNat] at ho59; rw [← Ny229.out] at ho59)); have n0_ := Aside0.mk (Kd.V_elder' (Vb HO_1.out) (Kd.R_base ho59) hb); have n1_ := Aside0.mk (Kd.V_elder' (Vb HO_4.out) (Kd.R_base ho59) hb); have n2_ := Aside0.mk (Kd.V_elder' (Vb HO_221001.out) (Kd.R_base ho59) hb); have n3_ := Aside0.mk (Kd.R_lower (Kd.R_newM (M := fun k_ => (w.heap.size ≤ k_)) ho59 (below_size (Hb HB.out)) (fun k_ h_ => h_)) (below_size (Hb HB.out))); have n4_ := Aside0.mk (blk_below (Bb BK220.out) hb); have n5_ := Aside0.mk (below_step (Hb HB.out) hb); clear HO_1; clear HO_4; clear HO_221001; clear BK220; clear HB; have HO_1 := n0_; have HO_4 := n1_; have HO_221001 := n2_; have HO231 := n3_; have BK220 := n4_; have HB := n5_; clear n0_ n1_ n2_ n3_ n4_ n5_; clear hb ho59) | ((with_reducible refine gate_builtin (b := .append) (xs := #[.tmp 32, .tmp 33]) rfl ?_); at_builtin; refine Kd.R_append_rows k32 (w0 := w) w.heap.size rfl (.tmp 32) (.tmp 33) 23 32 (.agg #[(.int .i64 0), (.int .u64 0)]) 16 rfl Try.underlying23 info32 rfl (by decide) (by omega) v230 y229 l4 _ _ _ (fun k_ => (w.heap.size ≤ k_)) (fun _ => False) rfl rfl ?aO ?aR (fun _ _ h => h) (fun _ h => h.elim) ?aF ?aB ?aS ?aL ?_; (case aR => repeat (first | exact (Kd.V_reads' HO_4.out).2.2 | (with_reducible refine Kd.C_alloc ?_ _) | (with_reducible refine Kd.C_drewN ?_ _) | (with_reducible refine Kd.C_drew ?_))); (case aB => exact (Hb HB.out)); (case aF => exact (fun k_ hk => (Nat.le_trans (below_size (Hb HB.out)) hk))); (case aO => exact (by (with_reducible repeat (first | apply Kd.R_alloc | apply Kd.R_drewN | apply Kd.R_drew)); exact Kd.R_mono HO231.out (fun _ hk => hk.1))); (case aS => exact (below_size (Hb HB.out))); (case aL => have := LMc47.out; omega); intro v233 w60 ho hb hg hat; rw [← Ny232.out] at ho; have n0_ := Aside0.mk (Kd.V_afterv (ok := (fun k_ => ((P0_1_ k_ ∨ P1_ k_ ∨ P4_ k_) ∨ w.heap.size ≤ k_) ∧ k_ ≠ gb220)) (Vb HO_1.out) hg hat); have n1_ := Aside0.mk (Kd.V_afterv (ok := (fun k_ => ((P0_1_ k_ ∨ P1_ k_ ∨ P4_ k_) ∨ w.heap.size ≤ k_) ∧ k_ ≠ gb220)) (Vb HO_4.out) hg hat); have n2_ := Aside0.mk (Kd.V_afterv (ok := (fun k_ => ((P0_1_ k_ ∨ P1_ k_ ∨ P4_ k_) ∨ w.heap.size ≤ k_) ∧ k_ ≠ gb220)) (Vb HO_221001.out) hg hat); have n3_ := Aside0.mk (blk_grown (g := gb220) (o := .cells #[.int .u64 a0_0, .slice A0_1 l0_1.length c0_1] 25 (0, 0)) (Bb BK220.out) hg (Kd.R_ne HO231.out BK220.out (by decide))); have n4_ := Aside0.mk (hb); have n5_ := Aside0.mk (ho); clear HO_1; clear HO_4; clear HO_221001; clear BK220; clear HB; clear HO231; have HO_1 := n0_; have HO_4 := n1_; have HO_221001 := n2_; have BK220 := n3_; have HB := n4_; have HO234 := n5_; clear n0_ n1_ n2_ n3_ n4_ n5_; clear ho hb hg hat))
                have n0_ := Aside0.mk (Kd.V_drew HO_1.out)
                have n1_ := Aside0.mk (Kd.V_drew HO_4.out)
                have n2_ := Aside0.mk (Kd.V_drew HO_221001.out)
                have n3_ := Aside0.mk (Kd.R_drew HO234.out)
                have n4_ := Aside0.mk (blk_drew BK220.out)
                have n5_ := Aside0.mk (below_drew1 HB.out)
                clear HO_1
                clear HO_4
                clear HO_221001
                clear HO234
                clear BK220
                clear HB
                have HO_1 := n0_
                have HO_4 := n1_
                have HO_221001 := n2_
                have HO234 := n3_
                have BK220 := n4_
                have HB := n5_
                clear n0_ n1_ n2_ n3_ n4_ n5_
                obtain ⟨Ao62, co62, eo62⟩ := Kd.R_slice HO234.out
                (first | subst eo62 | (injection eo62 with f1_ f2_ f3_; have f4_ := f1_.symm; have f5_ := f3_.symm; clear f1_ f2_ f3_; subst f4_; subst f5_))
                refine start_ (n := 39) (S := fun w' => w'.cell? ⟨gb220, 0, none⟩ = some (.int .u64 a0_0) ∧ w'.cell? ⟨gb220, 1, none⟩ = some (.slice A0_1 l0_1.length c0_1)) (ds := []) #[false, false, false, false, false, false, false, false, false, false, false, false, false, false, false, false, false, false, false, false, false, false, false, false, false, false, false, false, false, false, false, false, false, false, false, false, false, false, false] (by kernel_rfl) rfl rfl ⟨(blk_cell BK220.out 0).trans rfl, (blk_cell BK220.out 1).trans rfl⟩ (fun hHeld => ?_); refine with_tabW scrivenerlaw14_StripeCounts.tab4 scrivenerlaw14_StripeCounts.bits4 (fun HT_ HW_ => ?_)
                generalize w60.drew = w61 at HO_1 HO_4 HO_221001 HO234 BK220 HB hHeld ⊢
                refine pure_ (i := 0) (N := some 35) (v := ?_) (a' := ?_) #[true, false, false, false, false, false, false, false, false, false, false, false, false, false, false, false, false, false, false, false, false, false, false, false, false, false, false, false, false, false, false, false, false, false, false, false, false, false, false] rfl rfl (any_of HT_.out (by kernel_rfl)) (fun _ _ _ h => h) (Or.inl ⟨by rfl, ?_⟩) ?_ ?_
                rotate_left
                · intro w'
                  go_simp
                  with_reducible rfl
                rotate_left
                · simp only [Act.put, List.setIfInBounds_toArray, List.set_cons_zero, List.set_cons_succ, i64_w, i32_w]
                  rfl
                refine pure_ (i := 1) (N := some 36) (v := ?_) (a' := ?_) #[true, true, false, false, false, false, false, false, false, false, false, false, false, false, false, false, false, false, false, false, false, false, false, false, false, false, false, false, false, false, false, false, false, false, false, false, false, false, false] rfl rfl (any_of HT_.out (by kernel_rfl)) (fun _ _ _ h => h) (Or.inl ⟨by rfl, ?_⟩) ?_ ?_
                rotate_left
                · intro w'
                  go_simp
                  with_reducible rfl
                rotate_left
                · simp only [Act.put, List.setIfInBounds_toArray, List.set_cons_zero, List.set_cons_succ, i64_w, i32_w]
                  rfl
                refine pure_ (i := 2) (N := some 37) (v := ?_) (a' := ?_) #[true, true, true, false, false, false, false, false, false, false, false, false, false, false, false, false, false, false, false, false, false, false, false, false, false, false, false, false, false, false, false, false, false, false, false, false, false, false, false] rfl rfl (any_of HT_.out (by kernel_rfl)) (fun _ _ _ h => h) (Or.inl ⟨by rfl, ?_⟩) ?_ ?_
                rotate_left
                · intro w'
                  go_simp
                  with_reducible rfl
                rotate_left
                · simp only [Act.put, List.setIfInBounds_toArray, List.set_cons_zero, List.set_cons_succ, i64_w, i32_w]
                  rfl
                refine pure_ (i := 4) (N := some 39) (v := ?_) (a' := ?_) #[true, true, true, false, true, false, false, false, false, false, false, false, false, false, false, false, false, false, false, false, false, false, false, false, false, false, false, false, false, false, false, false, false, false, false, false, false, false, false] rfl rfl (any_of HT_.out (by kernel_rfl)) (fun _ _ _ h => h) (Or.inl ⟨by rfl, ?_⟩) ?_ ?_
                rotate_left
                · intro w'
                  go_simp
                  with_reducible rfl
                rotate_left
                · simp only [Act.put, List.setIfInBounds_toArray, List.set_cons_zero, List.set_cons_succ, i64_w, i32_w]
                  rfl
                refine pure_ (i := 5) (N := some 40) (v := ?_) (a' := ?_) #[true, true, true, false, true, true, false, false, false, false, false, false, false, false, false, false, false, false, false, false, false, false, false, false, false, false, false, false, false, false, false, false, false, false, false, false, false, false, false] rfl rfl (any_of HT_.out (by kernel_rfl)) (fun _ _ _ h => h) (Or.inl ⟨by rfl, ?_⟩) ?_ ?_
                rotate_left
                · intro w'
                  go_simp
                  with_reducible rfl
                rotate_left
                · simp only [Act.put, List.setIfInBounds_toArray, List.set_cons_zero, List.set_cons_succ, i64_w, i32_w]
                  rfl
                refine pure_ (i := 6) (N := some 41) (v := ?_) (a' := ?_) #[true, true, true, false, true, true, true, false, false, false, false, false, false, false, false, false, false, false, false, false, false, false, false, false, false, false, false, false, false, false, false, false, false, false, false, false, false, false, false] rfl rfl (any_of HT_.out (by kernel_rfl)) (fun _ _ _ h => h) (Or.inl ⟨by rfl, ?_⟩) ?_ ?_
                rotate_left
                · intro w'
                  go_simp
                  with_reducible rfl
                rotate_left
                · simp only [Act.put, List.setIfInBounds_toArray, List.set_cons_zero, List.set_cons_succ, i64_w, i32_w]
                  rfl
                refine one_ (i := 3) (N := some 38) #[true, true, true, true, true, true, true, false, false, false, false, false, false, false, false, false, false, false, false, false, false, false, false, false, false, false, false, false, false, false, false, false, false, false, false, false, false, false, false] rfl rfl (one_of HT_.out (by kernel_rfl)) (by decide) (fun K hK => ?_)
                refine goes_ Try.func17 (by kernel_rfl) rfl #[.slice A1 l1.length c1, .int .i64 a3, .slice Ao62 y232.length co62] (by rfl) rfl rfl (by (try simp only [List.map_toArray, List.map_cons, List.map_nil]); first | done | rfl | (simp only [List.length_drop, List.length_take]; rfl)) ?_
                with_reducible refine (stripe_Acked.calls kj5 _ _ l1 a3 _ _ y232 t235 _ ?side1 ?side2 ?side3 ?side4 A48.out).mono ?_
                (case side1 => exact Cb (Kd.V_reads' HO_1.out).2.2)
                (case side2 => exact (Kd.V_reads' HO_1.out).2.1)
                (case side3 => exact Cb (Kd.R_reads' HO234.out).2.2)
                (case side4 => exact (Kd.R_reads' HO234.out).2.1)
                rintro e w63 ⟨rfl, hb⟩
                refine ⟨_, rfl, ?_⟩
                have n0_ := Aside0.mk (Kd.V_below (Vb HO_1.out) hb)
                have n1_ := Aside0.mk (Kd.V_below (Vb HO_4.out) hb)
                have n2_ := Aside0.mk (Kd.V_below (Vb HO_221001.out) hb)
                have n3_ := Aside0.mk (Kd.R_below (Rb HO234.out) hb)
                have n4_ := Aside0.mk (blk_below (Bb BK220.out) hb)
                have n5_ := Aside0.mk (below_step (Hb HB.out) hb)
                clear HO_1
                clear HO_4
                clear HO_221001
                clear HO234
                clear BK220
                clear HB
                have HO_1 := n0_
                have HO_4 := n1_
                have HO_221001 := n2_
                have HO234 := n3_
                have BK220 := n4_
                have HB := n5_
                clear n0_ n1_ n2_ n3_ n4_ n5_
                (try clear hb)
                (try clear hb2)
                (try clear hk)
                (try clear hi)
                refine hK.out _ _ ⟨(blk_cell BK220.out 0).trans rfl, (blk_cell BK220.out 1).trans rfl⟩ (fun hHeld => ?_)
                clear hK K
                refine norm_ (a' := ?_) ?_ ?_
                rotate_left
                · show Act.put _ (some 38) _ = _
                  simp only [Act.put, List.setIfInBounds_toArray, List.set_cons_zero, List.set_cons_succ, i64_w, i32_w]
                  rfl
                refine one_ (i := 7) (N := some 42) #[true, true, true, true, true, true, true, true, false, false, false, false, false, false, false, false, false, false, false, false, false, false, false, false, false, false, false, false, false, false, false, false, false, false, false, false, false, false, false] rfl rfl (one_of HT_.out (by kernel_rfl)) (by decide) (fun K hK => ?_)
                refine goes_ Try.func18 (by kernel_rfl) rfl #[.slice A1 l1.length c1, .int .i64 a3, .slice A4 l4.length c4] (by rfl) rfl rfl (by (try simp only [List.map_toArray, List.map_cons, List.map_nil]); first | done | rfl | (simp only [List.length_drop, List.length_take]; rfl)) ?_
                with_reducible refine (scrivenerref14_Acked.calls kj5 _ _ l1 a3 _ _ l4 t236 _ ?side1 ?side2 ?side3 ?side4 A49.out).mono ?_
                (case side1 => exact Cb (Kd.V_reads' HO_1.out).2.2)
                (case side2 => exact (Kd.V_reads' HO_1.out).2.1)
                (case side3 => exact Cb (Kd.V_reads' HO_4.out).2.2)
                (case side4 => exact (Kd.V_reads' HO_4.out).2.1)
                rintro e w' ⟨rfl, ⟨nd, rfl⟩⟩
                refine ⟨_, rfl, ?_⟩
                refine hK.out _ _ ⟨(blk_cell BK220.out 0).trans rfl, (blk_cell BK220.out 1).trans rfl⟩ (fun hHeld => ?_)
                clear hK K
                refine norm_ (a' := ?_) ?_ ?_
                rotate_left
                · show Act.put _ (some 42) _ = _
                  simp only [Act.put, List.setIfInBounds_toArray, List.set_cons_zero, List.set_cons_succ, i64_w, i32_w]
                  rfl
                refine pure_ (i := 8) (N := some 43) (v := ?_) (a' := ?_) #[true, true, true, true, true, true, true, true, true, false, false, false, false, false, false, false, false, false, false, false, false, false, false, false, false, false, false, false, false, false, false, false, false, false, false, false, false, false, false] rfl rfl (any_of HT_.out (by kernel_rfl)) (fun _ _ _ h => h) (Or.inl ⟨by rfl, ?_⟩) ?_ ?_
                rotate_left
                · intro w'
                  go_simp
                  with_reducible rfl
                rotate_left
                · simp only [Act.put, List.setIfInBounds_toArray, List.set_cons_zero, List.set_cons_succ, i64_w, i32_w]
                  rfl
                refine pure_ (i := 9) (N := some 44) (v := ?_) (a' := ?_) #[true, true, true, true, true, true, true, true, true, true, false, false, false, false, false, false, false, false, false, false, false, false, false, false, false, false, false, false, false, false, false, false, false, false, false, false, false, false, false] rfl rfl (any_of HT_.out (by kernel_rfl)) (fun _ _ _ h => h) (Or.inl ⟨by rfl, ?_⟩) ?_ ?_
                rotate_left
                · intro w'
                  go_simp
                  with_reducible rfl
                rotate_left
                · simp only [Act.put, List.setIfInBounds_toArray, List.set_cons_zero, List.set_cons_succ, i64_w, i32_w]
                  rfl
                refine pure_ (i := 10) (N := some 45) (v := ?_) (a' := ?_) #[true, true, true, true, true, true, true, true, true, true, true, false, false, false, false, false, false, false, false, false, false, false, false, false, false, false, false, false, false, false, false, false, false, false, false, false, false, false, false] rfl rfl (any_of HT_.out (by kernel_rfl)) (fun _ _ _ h => h) (Or.inl ⟨by rfl, ?_⟩) ?_ ?_
                rotate_left
                · intro w'
                  go_simp
                  with_reducible rfl
                rotate_left
                · simp only [Act.put, List.setIfInBounds_toArray, List.set_cons_zero, List.set_cons_succ, i64_w, i32_w]
                  rfl
                refine pure_ (i := 11) (N := some 46) (v := ?_) (a' := ?_) #[true, true, true, true, true, true, true, true, true, true, true, true, false, false, false, false, false, false, false, false, false, false, false, false, false, false, false, false, false, false, false, false, false, false, false, false, false, false, false] rfl rfl (any_of HT_.out (by kernel_rfl)) (fun _ _ _ h => h) (Or.inl ⟨by rfl, ?_⟩) ?_ ?_
                rotate_left
                · intro w'
                  go_simp
                  with_reducible rfl
                rotate_left
                · simp only [Act.put, List.setIfInBounds_toArray, List.set_cons_zero, List.set_cons_succ, i64_w, i32_w]
                  rfl
                refine pure_ (i := 12) (N := some 47) (v := ?_) (a' := ?_) #[true, true, true, true, true, true, true, true, true, true, true, true, true, false, false, false, false, false, false, false, false, false, false, false, false, false, false, false, false, false, false, false, false, false, false, false, false, false, false] rfl rfl (any_of HT_.out (by kernel_rfl)) (fun _ _ _ h => h) (Or.inl ⟨by rfl, ?_⟩) ?_ ?_
                rotate_left
                · intro w'
                  go_simp
                  with_reducible rfl
                rotate_left
                · simp only [Act.put, List.setIfInBounds_toArray, List.set_cons_zero, List.set_cons_succ, i64_w, i32_w]
                  rfl
                refine pure_ (i := 13) (N := some 48) (v := ?_) (a' := ?_) #[true, true, true, true, true, true, true, true, true, true, true, true, true, true, false, false, false, false, false, false, false, false, false, false, false, false, false, false, false, false, false, false, false, false, false, false, false, false, false] rfl rfl (any_of HT_.out (by kernel_rfl)) (fun _ _ _ h => h) (Or.inl ⟨by rfl, ?_⟩) ?_ ?_
                rotate_left
                · intro w'
                  go_simp
                  with_reducible rfl
                rotate_left
                · simp only [Act.put, List.setIfInBounds_toArray, List.set_cons_zero, List.set_cons_succ, i64_w, i32_w]
                  rfl
                refine pure_ (i := 15) (N := some 50) (v := ?_) (a' := ?_) #[true, true, true, true, true, true, true, true, true, true, true, true, true, true, false, true, false, false, false, false, false, false, false, false, false, false, false, false, false, false, false, false, false, false, false, false, false, false, false] rfl rfl (any_of HT_.out (by kernel_rfl)) (fun _ _ _ h => h) (Or.inl ⟨by rfl, ?_⟩) ?_ ?_
                rotate_left
                · intro w'
                  go_simp
                  with_reducible rfl
                rotate_left
                · simp only [Act.put, List.setIfInBounds_toArray, List.set_cons_zero, List.set_cons_succ, i64_w, i32_w]
                  rfl
                refine pure_ (i := 16) (N := some 51) (v := ?_) (a' := ?_) #[true, true, true, true, true, true, true, true, true, true, true, true, true, true, false, true, true, false, false, false, false, false, false, false, false, false, false, false, false, false, false, false, false, false, false, false, false, false, false] rfl rfl (any_of HT_.out (by kernel_rfl)) (fun _ _ _ h => h) (Or.inl ⟨by rfl, ?_⟩) ?_ ?_
                rotate_left
                · intro w'
                  go_simp
                  with_reducible rfl
                rotate_left
                · simp only [Act.put, List.setIfInBounds_toArray, List.set_cons_zero, List.set_cons_succ, i64_w, i32_w]
                  rfl
                refine pure_ (i := 17) (N := some 52) (v := ?_) (a' := ?_) #[true, true, true, true, true, true, true, true, true, true, true, true, true, true, false, true, true, true, false, false, false, false, false, false, false, false, false, false, false, false, false, false, false, false, false, false, false, false, false] rfl rfl (any_of HT_.out (by kernel_rfl)) (fun _ _ _ h => h) (Or.inl ⟨by rfl, ?_⟩) ?_ ?_
                rotate_left
                · intro w'
                  go_simp
                  with_reducible rfl
                rotate_left
                · simp only [Act.put, List.setIfInBounds_toArray, List.set_cons_zero, List.set_cons_succ, i64_w, i32_w]
                  rfl
                refine pure_ (i := 18) (N := some 53) (v := ?_) (a' := ?_) #[true, true, true, true, true, true, true, true, true, true, true, true, true, true, false, true, true, true, true, false, false, false, false, false, false, false, false, false, false, false, false, false, false, false, false, false, false, false, false] rfl rfl (any_of HT_.out (by kernel_rfl)) (fun _ _ _ h => h) (Or.inl ⟨by rfl, ?_⟩) ?_ ?_
                rotate_left
                · intro w'
                  go_simp
                  with_reducible rfl
                rotate_left
                · simp only [Act.put, List.setIfInBounds_toArray, List.set_cons_zero, List.set_cons_succ, i64_w, i32_w]
                  rfl
                refine one_ (i := 14) (N := some 49) #[true, true, true, true, true, true, true, true, true, true, true, true, true, true, true, true, true, true, true, false, false, false, false, false, false, false, false, false, false, false, false, false, false, false, false, false, false, false, false] rfl rfl (one_of HT_.out (by kernel_rfl)) (by decide) (fun K hK => ?_)
                refine goes_ Try.func19 (by kernel_rfl) rfl #[.slice A1 l1.length c1, .int .i64 a2, .int .i64 a3, .slice Ao62 y232.length co62] (by rfl) rfl rfl (by (try simp only [List.map_toArray, List.map_cons, List.map_nil]); first | done | rfl | (simp only [List.length_drop, List.length_take]; rfl)) ?_
                with_reducible refine (stripe_Missing.calls kj5 _ _ l1 a2 a3 _ _ y232 t237 _ ?side1 ?side2 ?side3 ?side4 A51.out).mono ?_
                (case side1 => exact Cb (Kd.V_reads' HO_1.out).2.2)
                (case side2 => exact (Kd.V_reads' HO_1.out).2.1)
                (case side3 => exact Cb (Kd.R_reads' HO234.out).2.2)
                (case side4 => exact (Kd.R_reads' HO234.out).2.1)
                rintro e w64 ⟨rfl, hb⟩
                refine ⟨_, rfl, ?_⟩
                have n0_ := Aside0.mk (Kd.V_below (Vb HO_1.out) hb)
                have n1_ := Aside0.mk (Kd.V_below (Vb HO_4.out) hb)
                have n2_ := Aside0.mk (Kd.V_below (Vb HO_221001.out) hb)
                have n3_ := Aside0.mk (Kd.R_below (Rb HO234.out) hb)
                have n4_ := Aside0.mk (blk_below (Bb BK220.out) hb)
                have n5_ := Aside0.mk (below_step (Hb HB.out) hb)
                clear HO_1
                clear HO_4
                clear HO_221001
                clear HO234
                clear BK220
                clear HB
                have HO_1 := n0_
                have HO_4 := n1_
                have HO_221001 := n2_
                have HO234 := n3_
                have BK220 := n4_
                have HB := n5_
                clear n0_ n1_ n2_ n3_ n4_ n5_
                (try clear hb)
                (try clear hb2)
                (try clear hk)
                (try clear hi)
                refine hK.out _ _ ⟨(blk_cell BK220.out 0).trans rfl, (blk_cell BK220.out 1).trans rfl⟩ (fun hHeld => ?_)
                clear hK K
                refine norm_ (a' := ?_) ?_ ?_
                rotate_left
                · show Act.put _ (some 49) _ = _
                  simp only [Act.put, List.setIfInBounds_toArray, List.set_cons_zero, List.set_cons_succ, i64_w, i32_w]
                  rfl
                refine one_ (i := 19) (N := some 54) #[true, true, true, true, true, true, true, true, true, true, true, true, true, true, true, true, true, true, true, true, false, false, false, false, false, false, false, false, false, false, false, false, false, false, false, false, false, false, false] rfl rfl (one_of HT_.out (by kernel_rfl)) (by decide) (fun K hK => ?_)
                refine goes_ Try.func20 (by kernel_rfl) rfl #[.slice A1 l1.length c1, .int .i64 a2, .int .i64 a3, .slice A4 l4.length c4] (by rfl) rfl rfl (by (try simp only [List.map_toArray, List.map_cons, List.map_nil]); first | done | rfl | (simp only [List.length_drop, List.length_take]; rfl)) ?_
                with_reducible refine (scrivenerref14_Missing.calls kj5 _ _ l1 a2 a3 _ _ l4 t238 _ ?side1 ?side2 ?side3 ?side4 A52.out).mono ?_
                (case side1 => exact Cb (Kd.V_reads' HO_1.out).2.2)
                (case side2 => exact (Kd.V_reads' HO_1.out).2.1)
                (case side3 => exact Cb (Kd.V_reads' HO_4.out).2.2)
                (case side4 => exact (Kd.V_reads' HO_4.out).2.1)
                rintro e w' ⟨rfl, ⟨nd, rfl⟩⟩
                refine ⟨_, rfl, ?_⟩
                refine hK.out _ _ ⟨(blk_cell BK220.out 0).trans rfl, (blk_cell BK220.out 1).trans rfl⟩ (fun hHeld => ?_)
                clear hK K
                refine norm_ (a' := ?_) ?_ ?_
                rotate_left
                · show Act.put _ (some 54) _ = _
                  simp only [Act.put, List.setIfInBounds_toArray, List.set_cons_zero, List.set_cons_succ, i64_w, i32_w]
                  rfl
                refine pure_ (i := 20) (N := some 55) (v := ?_) (a' := ?_) #[true, true, true, true, true, true, true, true, true, true, true, true, true, true, true, true, true, true, true, true, true, false, false, false, false, false, false, false, false, false, false, false, false, false, false, false, false, false, false] rfl rfl (any_of HT_.out (by kernel_rfl)) (fun _ _ _ h => h) (Or.inl ⟨by rfl, ?_⟩) ?_ ?_
                rotate_left
                · intro w'
                  go_simp
                  with_reducible rfl
                rotate_left
                · simp only [Act.put, List.setIfInBounds_toArray, List.set_cons_zero, List.set_cons_succ, i64_w, i32_w]
                  rfl
                refine pure_ (i := 21) (N := some 56) (v := ?_) (a' := ?_) #[true, true, true, true, true, true, true, true, true, true, true, true, true, true, true, true, true, true, true, true, true, true, false, false, false, false, false, false, false, false, false, false, false, false, false, false, false, false, false] rfl rfl (any_of HT_.out (by kernel_rfl)) (fun _ _ _ h => h) (Or.inl ⟨by rfl, ?_⟩) ?_ ?_
                rotate_left
                · intro w'
                  go_simp
                  with_reducible rfl
                rotate_left
                · simp only [Act.put, List.setIfInBounds_toArray, List.set_cons_zero, List.set_cons_succ, i64_w, i32_w]
                  rfl
                refine pure_ (i := 22) (N := some 57) (v := ?_) (a' := ?_) #[true, true, true, true, true, true, true, true, true, true, true, true, true, true, true, true, true, true, true, true, true, true, true, false, false, false, false, false, false, false, false, false, false, false, false, false, false, false, false] rfl rfl (any_of HT_.out (by kernel_rfl)) (fun _ _ _ h => h) (Or.inl ⟨by rfl, ?_⟩) ?_ ?_
                rotate_left
                · intro w'
                  go_simp
                  with_reducible rfl
                rotate_left
                · simp only [Act.put, List.setIfInBounds_toArray, List.set_cons_zero, List.set_cons_succ, i64_w, i32_w]
                  rfl
                refine pure_ (i := 24) (N := some 59) (v := ?_) (a' := ?_) #[true, true, true, true, true, true, true, true, true, true, true, true, true, true, true, true, true, true, true, true, true, true, true, false, true, false, false, false, false, false, false, false, false, false, false, false, false, false, false] rfl rfl (any_of HT_.out (by kernel_rfl)) (fun _ _ _ h => h) (Or.inl ⟨by rfl, ?_⟩) ?_ ?_
                rotate_left
                · intro w'
                  go_simp
                  with_reducible rfl
                rotate_left
                · simp only [Act.put, List.setIfInBounds_toArray, List.set_cons_zero, List.set_cons_succ, i64_w, i32_w]
                  rfl
                refine pure_ (i := 25) (N := some 60) (v := ?_) (a' := ?_) #[true, true, true, true, true, true, true, true, true, true, true, true, true, true, true, true, true, true, true, true, true, true, true, false, true, true, false, false, false, false, false, false, false, false, false, false, false, false, false] rfl rfl (any_of HT_.out (by kernel_rfl)) (fun _ _ _ h => h) (Or.inl ⟨by rfl, ?_⟩) ?_ ?_
                rotate_left
                · intro w'
                  go_simp
                  with_reducible rfl
                rotate_left
                · simp only [Act.put, List.setIfInBounds_toArray, List.set_cons_zero, List.set_cons_succ, i64_w, i32_w]
                  rfl
                refine pure_ (i := 26) (N := some 61) (v := ?_) (a' := ?_) #[true, true, true, true, true, true, true, true, true, true, true, true, true, true, true, true, true, true, true, true, true, true, true, false, true, true, true, false, false, false, false, false, false, false, false, false, false, false, false] rfl rfl (any_of HT_.out (by kernel_rfl)) (fun _ _ _ h => h) (Or.inl ⟨by rfl, ?_⟩) ?_ ?_
                rotate_left
                · intro w'
                  go_simp
                  with_reducible rfl
                rotate_left
                · simp only [Act.put, List.setIfInBounds_toArray, List.set_cons_zero, List.set_cons_succ, i64_w, i32_w]
                  rfl
                refine pure_ (i := 29) (N := some 64) (v := ?_) (a' := ?_) #[true, true, true, true, true, true, true, true, true, true, true, true, true, true, true, true, true, true, true, true, true, true, true, false, true, true, true, false, false, true, false, false, false, false, false, false, false, false, false] rfl rfl (any_of HT_.out (by kernel_rfl)) (fun _ _ _ h => h) (Or.inl ⟨by rfl, ?_⟩) ?_ ?_
                rotate_left
                · intro w'
                  go_simp
                  with_reducible rfl
                rotate_left
                · simp only [Act.put, List.setIfInBounds_toArray, List.set_cons_zero, List.set_cons_succ, i64_w, i32_w]
                  rfl
                refine pure_ (i := 30) (N := some 65) (v := ?_) (a' := ?_) #[true, true, true, true, true, true, true, true, true, true, true, true, true, true, true, true, true, true, true, true, true, true, true, false, true, true, true, false, false, true, true, false, false, false, false, false, false, false, false] rfl rfl (any_of HT_.out (by kernel_rfl)) (fun _ _ _ h => h) (Or.inl ⟨by rfl, ?_⟩) ?_ ?_
                rotate_left
                · intro w'
                  go_simp
                  with_reducible rfl
                rotate_left
                · simp only [Act.put, List.setIfInBounds_toArray, List.set_cons_zero, List.set_cons_succ, i64_w, i32_w]
                  rfl
                refine pure_ (i := 31) (N := some 66) (v := ?_) (a' := ?_) #[true, true, true, true, true, true, true, true, true, true, true, true, true, true, true, true, true, true, true, true, true, true, true, false, true, true, true, false, false, true, true, true, false, false, false, false, false, false, false] rfl rfl (any_of HT_.out (by kernel_rfl)) (fun _ _ _ h => h) (Or.inl ⟨by rfl, ?_⟩) ?_ ?_
                rotate_left
                · intro w'
                  go_simp
                  with_reducible rfl
                rotate_left
                · simp only [Act.put, List.setIfInBounds_toArray, List.set_cons_zero, List.set_cons_succ, i64_w, i32_w]
                  rfl
                refine take_ (i := 23) (N := some 58) (v := ?_) (a' := ?_) #[true, true, true, true, true, true, true, true, true, true, true, true, true, true, true, true, true, true, true, true, true, true, true, true, true, true, true, false, false, true, true, true, false, false, false, false, false, false, false] rfl rfl (take_ofW HT_.out HW_.out (by kernel_rfl)) (fun _ _ _ h => h) (Or.inl ⟨by rfl, ?_⟩) hHeld ?_ ?_
                rotate_left
                · rintro w' ⟨s0, s1⟩
                  go_simp
                  with_reducible rfl
                rotate_left
                · simp only [Act.put, List.setIfInBounds_toArray, List.set_cons_zero, List.set_cons_succ, i64_w, i32_w]
                  rfl
                refine take_ (i := 28) (N := some 63) (v := ?_) (a' := ?_) #[true, true, true, true, true, true, true, true, true, true, true, true, true, true, true, true, true, true, true, true, true, true, true, true, true, true, true, false, true, true, true, true, false, false, false, false, false, false, false] rfl rfl (take_ofW HT_.out HW_.out (by kernel_rfl)) (fun _ _ _ h => h) (Or.inl ⟨by rfl, ?_⟩) hHeld ?_ ?_
                rotate_left
                · rintro w' ⟨s0, s1⟩
                  go_simp
                  with_reducible rfl
                rotate_left
                · simp only [Act.put, List.setIfInBounds_toArray, List.set_cons_zero, List.set_cons_succ, i64_w, i32_w]
                  rfl
                refine one_ (i := 27) (N := some 62) #[true, true, true, true, true, true, true, true, true, true, true, true, true, true, true, true, true, true, true, true, true, true, true, true, true, true, true, true, true, true, true, true, false, false, false, false, false, false, false] rfl rfl (one_of HT_.out (by kernel_rfl)) (by decide) (fun K hK => ?_)
                refine goes_ Try.func15 (by kernel_rfl) rfl #[.agg #[.int .u64 a0_0, .slice A0_1 l0_1.length c0_1], .int .i64 a2, .int .i64 a3, .slice Ao62 y232.length co62] (by rfl) rfl rfl (by (try simp only [List.map_toArray, List.map_cons, List.map_nil]); first | done | rfl | (simp only [List.length_drop, List.length_take]; rfl)) ?_
                with_reducible refine (stripe_Covered.calls a0_0 _ _ l0_1 a2 a3 _ _ y232 t239 _ ?side1 ?side2 ?side3 ?side4 A54.out).mono ?_
                (case side1 => exact Cb (Kd.V_reads' HO_221001.out).2.2)
                (case side2 => exact (Kd.V_reads' HO_221001.out).2.1)
                (case side3 => exact Cb (Kd.R_reads' HO234.out).2.2)
                (case side4 => exact (Kd.R_reads' HO234.out).2.1)
                rintro e w65 ⟨rfl, hb⟩
                refine ⟨_, rfl, ?_⟩
                have n0_ := Aside0.mk (Kd.V_below (Vb HO_1.out) hb)
                have n1_ := Aside0.mk (Kd.V_below (Vb HO_4.out) hb)
                have n2_ := Aside0.mk (Kd.V_below (Vb HO_221001.out) hb)
                have n3_ := Aside0.mk (Kd.R_below (Rb HO234.out) hb)
                have n4_ := Aside0.mk (blk_below (Bb BK220.out) hb)
                have n5_ := Aside0.mk (below_step (Hb HB.out) hb)
                clear HO_1
                clear HO_4
                clear HO_221001
                clear HO234
                clear BK220
                clear HB
                have HO_1 := n0_
                have HO_4 := n1_
                have HO_221001 := n2_
                have HO234 := n3_
                have BK220 := n4_
                have HB := n5_
                clear n0_ n1_ n2_ n3_ n4_ n5_
                (try clear hb)
                (try clear hb2)
                (try clear hk)
                (try clear hi)
                refine hK.out _ _ ⟨(blk_cell BK220.out 0).trans rfl, (blk_cell BK220.out 1).trans rfl⟩ (fun hHeld => ?_)
                clear hK K
                refine norm_ (a' := ?_) ?_ ?_
                rotate_left
                · show Act.put _ (some 62) _ = _
                  simp only [Act.put, List.setIfInBounds_toArray, List.set_cons_zero, List.set_cons_succ, i64_w, i32_w]
                  rfl
                refine one_ (i := 32) (N := some 67) #[true, true, true, true, true, true, true, true, true, true, true, true, true, true, true, true, true, true, true, true, true, true, true, true, true, true, true, true, true, true, true, true, true, false, false, false, false, false, false] rfl rfl (one_of HT_.out (by kernel_rfl)) (by decide) (fun K hK => ?_)
                refine goes_ Try.func21 (by kernel_rfl) rfl #[.agg #[.int .u64 a0_0, .slice A0_1 l0_1.length c0_1], .int .i64 a2, .int .i64 a3, .slice A4 l4.length c4] (by rfl) rfl rfl (by (try simp only [List.map_toArray, List.map_cons, List.map_nil]); first | done | rfl | (simp only [List.length_drop, List.length_take]; rfl)) ?_
                with_reducible refine (scrivenerref14_Covered.calls kj5 a0_0 (fun k_ => ((((P0_1_ k_ ∨ P1_ k_ ∨ P4_ k_) ∨ w.heap.size ≤ k_) ∧ k_ ≠ gb220) ∧ some k_ ≠ (.slice Ao62 y232.length co62 : Value).ownBlock)) _ _ l0_1 a2 a3 _ _ l4 t240 _ ?side1 ?side2 ?side3 A55.out).mono ?_
                (case side1 => exact HO_221001.out)
                (case side2 => exact Cb (Kd.V_reads' HO_4.out).2.2)
                (case side3 => exact (Kd.V_reads' HO_4.out).2.1)
                rintro e w66 ⟨rfl, hb⟩
                refine ⟨_, rfl, ?_⟩
                have n0_ := Aside0.mk (Kd.V_below (Vb HO_1.out) hb)
                have n1_ := Aside0.mk (Kd.V_below (Vb HO_4.out) hb)
                have n2_ := Aside0.mk (Kd.V_below (Vb HO_221001.out) hb)
                have n3_ := Aside0.mk (Kd.R_below (Rb HO234.out) hb)
                have n4_ := Aside0.mk (blk_below (Bb BK220.out) hb)
                have n5_ := Aside0.mk (below_step (Hb HB.out) hb)
                clear HO_1
                clear HO_4
                clear HO_221001
                clear HO234
                clear BK220
                clear HB
                have HO_1 := n0_
                have HO_4 := n1_
                have HO_221001 := n2_
                have HO234 := n3_
                have BK220 := n4_
                have HB := n5_
                clear n0_ n1_ n2_ n3_ n4_ n5_
                (try clear hb)
                (try clear hb2)
                (try clear hk)
                (try clear hi)
                refine hK.out _ _ ⟨(blk_cell BK220.out 0).trans rfl, (blk_cell BK220.out 1).trans rfl⟩ (fun hHeld => ?_)
                clear hK K
                refine norm_ (a' := ?_) ?_ ?_
                rotate_left
                · show Act.put _ (some 67) _ = _
                  simp only [Act.put, List.setIfInBounds_toArray, List.set_cons_zero, List.set_cons_succ, i64_w, i32_w]
                  rfl
                refine pure_ (i := 33) (N := some 68) (v := ?_) (a' := ?_) #[true, true, true, true, true, true, true, true, true, true, true, true, true, true, true, true, true, true, true, true, true, true, true, true, true, true, true, true, true, true, true, true, true, true, false, false, false, false, false] rfl rfl (any_of HT_.out (by kernel_rfl)) (fun _ _ _ h => h) (Or.inl ⟨by rfl, ?_⟩) ?_ ?_
                rotate_left
                · intro w'
                  go_simp
                  with_reducible rfl
                rotate_left
                · simp only [Act.put, List.setIfInBounds_toArray, List.set_cons_zero, List.set_cons_succ, i64_w, i32_w]
                  rfl
                refine pure_ (i := 34) (N := some 69) (v := ?_) (a' := ?_) #[true, true, true, true, true, true, true, true, true, true, true, true, true, true, true, true, true, true, true, true, true, true, true, true, true, true, true, true, true, true, true, true, true, true, true, false, false, false, false] rfl rfl (any_of HT_.out (by kernel_rfl)) (fun _ _ _ h => h) (Or.inl ⟨by rfl, ?_⟩) ?_ ?_
                rotate_left
                · intro w'
                  go_simp
                  with_reducible rfl
                rotate_left
                · simp only [Act.put, List.setIfInBounds_toArray, List.set_cons_zero, List.set_cons_succ, i64_w, i32_w]
                  rfl
                refine pure_ (i := 35) (N := some 70) (v := ?_) (a' := ?_) #[true, true, true, true, true, true, true, true, true, true, true, true, true, true, true, true, true, true, true, true, true, true, true, true, true, true, true, true, true, true, true, true, true, true, true, true, false, false, false] rfl rfl (any_of HT_.out (by kernel_rfl)) (fun _ _ _ h => h) (Or.inl ⟨by rfl, ?_⟩) ?_ ?_
                rotate_left
                · intro w'
                  go_simp
                  with_reducible rfl
                rotate_left
                · simp only [Act.put, List.setIfInBounds_toArray, List.set_cons_zero, List.set_cons_succ, i64_w, i32_w]
                  rfl
                refine one_ (i := 36) (N := some 71) #[true, true, true, true, true, true, true, true, true, true, true, true, true, true, true, true, true, true, true, true, true, true, true, true, true, true, true, true, true, true, true, true, true, true, true, true, true, false, false] rfl rfl (one_of HT_.out (by kernel_rfl)) (by decide) (fun K hK => ?_)
                refine goes_ Try.func12 (by kernel_rfl) rfl #[] (by rfl) rfl rfl (by (try simp only [List.map_toArray, List.map_cons, List.map_nil]); first | done | rfl | (simp only [List.length_drop, List.length_take]; rfl)) ?_
                with_reducible refine (scrivenerlaw14_awake.calls  t241 _ A57.out).mono ?_
                rintro e w67 ⟨rfl, hb⟩
                refine ⟨_, rfl, ?_⟩
                have n0_ := Aside0.mk (Kd.V_below (Vb HO_1.out) hb)
                have n1_ := Aside0.mk (Kd.V_below (Vb HO_4.out) hb)
                have n2_ := Aside0.mk (Kd.V_below (Vb HO_221001.out) hb)
                have n3_ := Aside0.mk (Kd.R_below (Rb HO234.out) hb)
                have n4_ := Aside0.mk (blk_below (Bb BK220.out) hb)
                have n5_ := Aside0.mk (below_step (Hb HB.out) hb)
                clear HO_1
                clear HO_4
                clear HO_221001
                clear HO234
                clear BK220
                clear HB
                have HO_1 := n0_
                have HO_4 := n1_
                have HO_221001 := n2_
                have HO234 := n3_
                have BK220 := n4_
                have HB := n5_
                clear n0_ n1_ n2_ n3_ n4_ n5_
                (try clear hb)
                (try clear hb2)
                (try clear hk)
                (try clear hi)
                refine hK.out _ _ ⟨(blk_cell BK220.out 0).trans rfl, (blk_cell BK220.out 1).trans rfl⟩ (fun hHeld => ?_)
                clear hK K
                refine norm_ (a' := ?_) ?_ ?_
                rotate_left
                · show Act.put _ (some 71) _ = _
                  simp only [Act.put, List.setIfInBounds_toArray, List.set_cons_zero, List.set_cons_succ, i64_w, i32_w]
                  rfl
                refine pure_ (i := 37) (N := some 72) (v := ?_) (a' := ?_) #[true, true, true, true, true, true, true, true, true, true, true, true, true, true, true, true, true, true, true, true, true, true, true, true, true, true, true, true, true, true, true, true, true, true, true, true, true, true, false] rfl rfl (any_of HT_.out (by kernel_rfl)) (fun _ _ _ h => h) (Or.inl ⟨by rfl, ?_⟩) ?_ ?_
                rotate_left
                · intro w'
                  go_simp
                  with_reducible rfl
                rotate_left
                · simp only [Act.put, List.setIfInBounds_toArray, List.set_cons_zero, List.set_cons_succ, i64_w, i32_w]
                  rfl
                refine pure_ (i := 38) (N := some 10) (v := ?_) (a' := ?_) #[true, true, true, true, true, true, true, true, true, true, true, true, true, true, true, true, true, true, true, true, true, true, true, true, true, true, true, true, true, true, true, true, true, true, true, true, true, true, true] rfl rfl (any_of HT_.out (by kernel_rfl)) (fun _ _ _ h => h) (Or.inl ⟨by rfl, ?_⟩) ?_ ?_
                rotate_left
                · intro w'
                  go_simp
                  with_reducible rfl
                rotate_left
                · simp only [Act.put, List.setIfInBounds_toArray, List.set_cons_zero, List.set_cons_succ, i64_w, i32_w]
                  rfl
                refine done_ (done_of HT_.out (by kernel_rfl)) ?_
                try go_wp2
                go_ret
                exact ⟨by first | rfl | (simp [errW_none, errW_some] <;> rfl) | (simp [*, errW_none, errW_some] <;> rfl), by repeat (first | (with_reducible first | exact HB.out | apply below_alloc | apply pw_below_drewN | apply below_drew1 | refine below_set ?_ GE220.out) | exact HB.out)⟩
              · rw [if_neg c56] at H
                have c56b0 : (t239 == t240) = false := by simpa using c56
                (try (have c56b1 : decide (t239 = t240) = false := by simpa using c56))
                (try (have c56b2 : (t239 == t240) = false := by simpa using c56))
                (try (have c56b3 : ¬ (t239 = t240) := by simpa using c56))
                clear c56
                exact absurd (Option.some.inj H) (by rw [HT_.out]; decide)
            · rw [if_neg c53] at H
              have c53b0 : (t237 == t238) = false := by simpa using c53
              (try (have c53b1 : decide (t237 = t238) = false := by simpa using c53))
              (try (have c53b2 : (t237 == t238) = false := by simpa using c53))
              (try (have c53b3 : ¬ (t237 = t238) := by simpa using c53))
              clear c53
              exact absurd (Option.some.inj H) (by rw [HT_.out]; decide)
          · rw [if_neg c50] at H
            have c50b0 : (t235 == t236) = false := by simpa using c50
            (try (have c50b1 : decide (t235 = t236) = false := by simpa using c50))
            (try (have c50b2 : (t235 == t236) = false := by simpa using c50))
            (try (have c50b3 : ¬ (t235 = t236) := by simpa using c50))
            clear c50
            exact absurd (Option.some.inj H) (by rw [HT_.out]; decide)
        · rw [if_neg c47] at H
          exact absurd H (by simp)
end Go.Proofs.Ytipjnfljkknmgaa.Q
namespace Go.Proofs.Ytipjnfljkknmgaa.Q
open Go.RowKit Go.Proofs.YtipjnfljkknmgaaW.PrintWords Go.Proofs.YtipjnfljkknmgaaW.PrintLast Go.Proofs.YtipjnfljkknmgaaW.PrintMore
set_option linter.unusedVariables false
set_option linter.unusedSimpArgs false
theorem ev_ite {α : Type} {c : Prop} [Decidable c] {g h : Nat → Option α} {r : α} (h1 : c → Ev g r) (h2 : ¬ c → Ev h r) : Ev (fun k => if c then g k else h k) r := by
  by_cases hc : c
  · simp only [if_pos hc]; exact h1 hc
  · simp only [if_neg hc]; exact h2 hc
theorem ev_pos {α : Type} {c : Prop} [Decidable c] {g h : Nat → Option α} {r : α} (hc : c) (h1 : Ev g r) : Ev (fun k => if c then g k else h k) r := ev_ite (fun _ => h1) (fun h => absurd hc h)
theorem ev_neg {α : Type} {c : Prop} [Decidable c] {g h : Nat → Option α} {r : α} (hc : ¬ c) (h1 : Ev h r) : Ev (fun k => if c then g k else h k) r := ev_ite (fun h => absurd h hc) (fun _ => h1)
theorem longfrags_one (f : S25) (hl : f.f1.length ≤ 9223372036854775807) : Ev (fun k => scrivenerlaw07_LongFrags.f k [f]) (decide (f.f1.length > 30)) := by
  refine ⟨3, fun k hk => ?_⟩
  obtain ⟨k, rfl⟩ : ∃ m, k = m + 2 := ⟨k - 2, by omega⟩
  show (if (([f].length : Nat) : Int) > 30 then some true else scrivenerlaw07_LongFrags.l0 (k + 2) [f] 0) = _
  rw [if_neg (by simp)]
  simp only [scrivenerlaw07_LongFrags.l0]
  rw [if_pos (by simp), if_pos (by omega)]
  have : rd_T25 [f] 0 = f := rfl
  rw [this]
  by_cases h : f.f1.length > 30
  · rw [if_pos (by omega), decide_eq_true h]
  · rw [if_neg (by omega), decide_eq_false h, if_neg (by simp [wrap64])]
theorem long_go (rows : List (List S32)) (hm : rows.length ≤ 1000) (d : Nat) : ∀ i : Nat, i + d = rows.length → Ev (fun k => longP14.l0 k rows (i : Int)) ((rows.drop i).any fun l => decide (l.length > 60)) := by
  induction d with
  | zero =>
    intro i hi
    rw [List.drop_eq_nil_of_le (by omega)]
    refine Ev.step (fun k => ?_) (Ev.now _)
    simp only [longP14.l0]
    rw [if_neg (by omega)]
    rfl
  | succ d ih =>
    intro i hi
    have hlt : i < rows.length := by omega
    have hr : rd_L3 rows (i : Int) = rows[i] := by simp [rd_L3, List.getD_eq_getElem?_getD, List.getElem?_eq_getElem hlt]
    rw [List.drop_eq_getElem_cons hlt, List.any_cons]
    by_cases h : rows[i].length > 60
    · rw [decide_eq_true h, Bool.true_or]
      refine Ev.step (fun k => ?_) (Ev.now _)
      simp only [longP14.l0]
      rw [if_pos (by omega), if_pos (by omega), hr, if_pos (by omega)]
    · rw [decide_eq_false h, Bool.false_or]
      refine Ev.step (f := fun k => longP14.l0 k rows ((i + 1 : Nat) : Int)) (fun k => ?_) (ih (i + 1) (by omega))
      simp only [longP14.l0]
      rw [if_pos (by omega), if_pos (by omega), hr, if_neg (by omega), w1 i (by omega)]
/-- Are rows longer than is gone through? -/
def longB (f : S25) (w : Int) (rows : List (List S32)) : Bool := decide (f.f1.length > 30) || decide (w > 1000) || rows.any fun l => decide (l.length > 60)
theorem long_ev (f : S25) (w : Int) (rows : List (List S32)) (hl : f.f1.length ≤ 9223372036854775807) (hm : rows.length ≤ 1000) : Ev (fun k => scrivenerlaw14_long.f k [f] w rows) (longB f w rows) := by
  unfold scrivenerlaw14_long.f longP14.f longB
  refine Ev.bind (longfrags_one f hl) ?_
  have hj : ∀ b : Bool, Ev (fun k => longP14.j0 k rows b) (b || rows.any fun l => decide (l.length > 60)) := by
    intro b
    cases b with
    | true =>
      refine Ev.step (fun k => ?_) (Ev.now _)
      simp [longP14.j0]
    | false =>
      refine Ev.step (f := fun k => longP14.l0 k rows ((0 : Nat) : Int)) (fun k => ?_) (by simpa using long_go rows hm rows.length 0 (by omega))
      simp [longP14.j0]
  by_cases h : f.f1.length > 30
  · simp only [decide_eq_true h, if_true, Bool.true_or]
    simpa using hj true
  · simp only [decide_eq_false h, Bool.false_or, Bool.false_eq_true, if_false]
    exact hj _
def covB (b : List S32) (w a : Int) (l3 : List S32) : Bool := if w < 1 ∨ w > (b.length : Int) then false else (List.range b.length).all fun k => missB (fromL b k w.toNat) w a l3
theorem pcov (f0 : Int) (b : List S32) (w a : Int) (l3 : List S32) (hb : b.length ≤ 8796093022208) : stripe_Covered.f f0 b w a l3 = some (covB b w a l3) := by
  unfold stripe_Covered.f covB
  split
  · rfl
  · first | rfl | (rw [if_pos hb]; rfl) | rw [if_pos hb]
end Go.Proofs.Ytipjnfljkknmgaa.Q
