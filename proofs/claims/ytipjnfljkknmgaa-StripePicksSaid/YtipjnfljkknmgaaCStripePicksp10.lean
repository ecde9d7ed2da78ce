/- Part 10 of the proof of the row StripePicks: written for this claim by the session and by a program of its own. -/
import Derived.Test.YtipjnfljkknmgaaCStripePicksp2
import Derived.Test.YtipjnfljkknmgaaCStripePicksp9
import Derived.Test.YtipjnfljkknmgaaCStripePicksp8
import Derived.Test.YtipjnfljkknmgaaCStripePicksp7
import Derived.Test.YtipjnfljkknmgaaCStripePicksp4
import Derived.Test.YtipjnfljkknmgaaCStripePicksp5
import Derived.Test.YtipjnfljkknmgaaCStripePicksp3
namespace Go.Proofs.Ytipjnfljkknmgaa.Q
open Go.RowKit Go.Proofs.YtipjnfljkknmgaaW.PrintWords Go.Proofs.YtipjnfljkknmgaaW.PrintLast Go.Proofs.YtipjnfljkknmgaaW.PrintMore
attribute [local go_sem] max2_int min2_int max_two min_two max_three min_three max_four min_four   -- for this text's walks alone
set_option linter.unusedVariables false
set_option linter.unusedSimpArgs false
mutual
def scrivenerref07_MayFrags.j0 : Nat → Int → List (S25) → Bool → Option (Bool)
  | 0, _, _, _ => none
  | k + 1, x0, x1, x23 => if x23 = true then (some false) else (scrivenerref07_MayFrags.l0 k x0 x1 0)
def scrivenerref07_MayFrags.l0 : Nat → Int → List (S25) → Int → Option (Bool)
  | 0, _, _, _ => none
  | k + 1, x0, x1, x5 => if x5 < (x1.length : Int) then (if 0 ≤ x5 then (if ((rd_T25 x1 x5).f0) > 9 then (scrivenerref07_MayFrags.j2 k x0 x1 x5 ((rd_T25 x1 x5).f1) true) else (if x5 > 0 then (if 0 ≤ (wrap64 (x5 - 1)) then (if (wrap64 (x5 - 1)) < (x1.length : Int) then (if ((rd_T25 x1 x5).f0) ≤ ((rd_T25 x1 (wrap64 (x5 - 1))).f0) then (scrivenerref07_MayFrags.j2 k x0 x1 x5 ((rd_T25 x1 x5).f1) true) else (if (((rd_T25 x1 x5).f1).length : Int) < x0 then (scrivenerref07_MayFrags.j2 k x0 x1 x5 ((rd_T25 x1 x5).f1) true) else (scrivenerref07_MayFrags.j2 k x0 x1 x5 ((rd_T25 x1 x5).f1) (decide ((((rd_T25 x1 x5).f1).length : Int) > 5))))) else (none)) else (none)) else (if (((rd_T25 x1 x5).f1).length : Int) < x0 then (scrivenerref07_MayFrags.j2 k x0 x1 x5 ((rd_T25 x1 x5).f1) true) else (scrivenerref07_MayFrags.j2 k x0 x1 x5 ((rd_T25 x1 x5).f1) (decide ((((rd_T25 x1 x5).f1).length : Int) > 5)))))) else (none)) else (some true)
def scrivenerref07_MayFrags.j2 : Nat → Int → List (S25) → Int → List (S32) → Bool → Option (Bool)
  | 0, _, _, _, _, _ => none
  | k + 1, x0, x1, x5, x6, x69 => if x69 = true then (some false) else (scrivenerref07_MayFrags.l1 k x0 x1 x5 x6 0)
def scrivenerref07_MayFrags.l1 : Nat → Int → List (S25) → Int → List (S32) → Int → Option (Bool)
  | 0, _, _, _, _, _ => none
  | k + 1, x0, x1, x5, x6, x7 => if x7 < (x6.length : Int) then (if 0 ≤ x7 then ((scrivenerref07_MayPlace.f ((rd_T32 x6 x7).f0) ((rd_T32 x6 x7).f1)).bind fun t109 => (if t109 = true then (scrivenerref07_MayFrags.l2 k x0 x1 x5 x6 x7 0) else (some false))) else (none)) else (scrivenerref07_MayFrags.l0 k x0 x1 (wrap64 (x5 + 1)))
def scrivenerref07_MayFrags.l2 : Nat → Int → List (S25) → Int → List (S32) → Int → Int → Option (Bool)
  | 0, _, _, _, _, _, _ => none
  | k + 1, x0, x1, x5, x6, x7, x8 => if x8 < x7 then (if 0 ≤ x8 then (if x8 < (x6.length : Int) then (if 0 ≤ x7 then (if x7 < (x6.length : Int) then (if ((rd_T32 x6 x8).f0) = ((rd_T32 x6 x7).f0) then (some false) else (scrivenerref07_MayFrags.l2 k x0 x1 x5 x6 x7 (wrap64 (x8 + 1)))) else (none)) else (none)) else (none)) else (none)) else (scrivenerref07_MayFrags.l1 k x0 x1 x5 x6 (wrap64 (x7 + 1)))
end
def scrivenerref07_MayFrags.f (k : Nat) (a0 : Int) (l1 : List (S25)) : Option (Bool) := if (l1.length : Int) < 1 then (scrivenerref07_MayFrags.j0 k a0 l1 true) else (if (l1.length : Int) > 6 then (scrivenerref07_MayFrags.j0 k a0 l1 true) else (if 0 < (l1.length : Int) then (scrivenerref07_MayFrags.j0 k a0 l1 (((rd_T25 l1 0).f0) != 1)) else (none)))
set_option maxHeartbeats 8000000 in
set_option maxRecDepth 100000 in
theorem scrivenerref07_MayFrags.calls (k : Nat) (a0 : Int) (A1 : Option Addr) (c1 : Nat) (l1 : List (S25)) (r : Bool) (w : World) (hr1 : Kd.C k25 w A1 l1.length l1) (hc1 : l1.length ≤ c1) (h : scrivenerref07_MayFrags.f k a0 l1 = some r) :
    Calls Try.prog 11 #[.int .i64 a0, .slice A1 l1.length c1] w fun e w' => e = .returned (.bool r) ∧ Below w.heap.size w w' := by
  have hu32 := Try.underlying32
  have HR1 := Aside0.mk hr1
  have HC1 := Aside0.mk hc1
  clear hr1 hc1
  have HB := Aside0.mk (Below.refl w.heap.size w)
  have H : (if (l1.length : Int) < 1 then (scrivenerref07_MayFrags.j0 k a0 l1 true) else (if (l1.length : Int) > 6 then (scrivenerref07_MayFrags.j0 k a0 l1 true) else (if 0 < (l1.length : Int) then (scrivenerref07_MayFrags.j0 k a0 l1 (((rd_T25 l1 0).f0) != 1)) else (none)))) = some r := h
  clear h
  have HC3 := Aside0.mk H
  clear H
  go_enter Try.func11, Try.ntmps11
  go_upto_region 1 with (fail)
  repeat (go_quiet (fail); go_upto_region 1 with (fail))
  go_cut [23] (fun v23 wc => ∃ (kq : Nat) (x23_2 : Bool), v23 = .bool x23_2 ∧ Aside0 (scrivenerref07_MayFrags.j0 kq a0 l1 x23_2 = some r) ∧ Aside0 (kq ≤ k) ∧ Aside0 (Below w.heap.size w wc))
  case first =>
    have H := HC3.out
    clear HC3
    by_cases c4 : (l1.length : Int) < 1
    · rw [if_pos c4] at H
      have c4b0 : decide ((l1.length : Int) < 1) = true := decide_eq_true c4
      have c4b1 : decide (l1.length < 1) = true := decide_eq_true (by omega)
      clear c4
      (first | rw [c4b0] | (simp only [i64_w, i32_w]; rw [c4b0]) | skip)
      have H' := Aside0.mk H
      clear H
      go_wp2
      repeat (go_quiet (fail); try go_wp2)
      go_meet
      case rel => exact ⟨_, (true), (by first | rfl | (simp; done) | (simp [*]; done)), H', ⟨by first | omega | exact Nat.le_refl _⟩, ⟨by repeat (first | (with_reducible first | exact HB.out | apply below_alloc | apply pw_below_drewN | apply below_drew1) | exact HB.out)⟩⟩
    · rw [if_neg c4] at H
      have c4b0 : decide ((l1.length : Int) < 1) = false := decide_eq_false c4
      have c4b1 : decide (l1.length < 1) = false := decide_eq_false (by omega)
      clear c4
      (first | rw [c4b0] | (simp only [i64_w, i32_w]; rw [c4b0]) | skip)
      by_cases c5 : (l1.length : Int) > 6
      · rw [if_pos c5] at H
        have c5b0 : decide (6 < (l1.length : Int)) = true := decide_eq_true c5
        have c5b1 : decide (6 < l1.length) = true := decide_eq_true (by omega)
        clear c5
        have H' := Aside0.mk H
        clear H
        go_wp2
        repeat (go_quiet (fail); try go_wp2)
        go_meet
        case rel => exact ⟨_, (true), (by first | rfl | (simp; done) | (simp [*]; done)), H', ⟨by first | omega | exact Nat.le_refl _⟩, ⟨by repeat (first | (with_reducible first | exact HB.out | apply below_alloc | apply pw_below_drewN | apply below_drew1) | exact HB.out)⟩⟩
      · rw [if_neg c5] at H
        have c5b0 : decide (6 < (l1.length : Int)) = false := decide_eq_false c5
        have c5b1 : decide (6 < l1.length) = false := decide_eq_false (by omega)
        clear c5
        by_cases c6 : 0 < (l1.length : Int)
        · rw [if_pos c6] at H
          have c6b0 : decide (0 < (l1.length : Int)) = true := decide_eq_true c6
          have c6b1 : decide (0 < l1.length) = true := decide_eq_true (by omega)
          clear c6
          have H' := Aside0.mk H
          clear H
          have p103 : 0 ≤ (0 : Int) := (by omega)
          have q103 : 0 < (l1.length : Int) := of_decide_eq_true (by first | (with_reducible assumption) | assumption)
          obtain ⟨ad103, A103_1, c103_1, e103, hx103_0, hx103_1, hl103_1, hi103_1⟩ := at_T25 HR1.out 0 p103 q103
          cases e103
          have qi103 : (0 < l1.length) = True := eq_true (by omega)
          (try rw [show ((0 : Int)).toNat = 0 from rfl] at hx103_0)
          (try rw [show 0 * 2 = 0 from rfl] at hx103_0)
          (try rw [Addr.add_zero'] at hx103_0)
          (try rw [show ((0 : Int)).toNat = 0 from rfl] at hx103_1)
          (try rw [show 0 * 2 = 0 from rfl] at hx103_1)
          (try rw [Addr.add_zero'] at hx103_1)
          replace hx103_0 := (HB.out.cell (World.block_lt_of_cell? w _ hx103_0)).trans hx103_0
          replace hx103_1 := (HB.out.cell (World.block_lt_of_cell? w _ hx103_1)).trans hx103_1
          have HR103_1 := Aside0.mk hi103_1
          have HC103_1 := Aside0.mk hl103_1
          clear hi103_1 hl103_1
          replace p103 := eq_true p103
          replace q103 := eq_true q103
          go_wp2
          repeat (go_quiet (fail); try go_wp2)
          go_meet
          case rel => exact ⟨_, ((((rd_T25 l1 0).f0) != 1)), (by first | rfl | (simp; done) | (simp [*]; done)), H', ⟨by first | omega | exact Nat.le_refl _⟩, ⟨by repeat (first | (with_reducible first | exact HB.out | apply below_alloc | apply pw_below_drewN | apply below_drew1) | exact HB.out)⟩⟩
        · rw [if_neg c6] at H
          exact absurd H (by simp)
  case rest =>
    clear HC3
    try clear c1
    try clear p1
    try clear q1
    try clear hx1
    try clear qi1
    try clear p2
    try clear c4
    try clear c4b0
    try clear c4b1
    try clear c5
    try clear c5b0
    try clear c5b1
    try clear c6
    try clear c6b0
    try clear c6b1
    try clear hx103_0
    try clear hx103_1
    try clear p103
    try clear q103
    obtain ⟨kq, x23_2, rfl, HA, HJ2, HB⟩ := hcut
    cases kq with
    | zero => exact absurd HA.out (by simp [scrivenerref07_MayFrags.j0])
    | succ kj2 =>
      have H := HA.out
      clear HA
      simp only [scrivenerref07_MayFrags.j0] at H
      by_cases c7 : x23_2 = true
      · subst c7
        rw [if_pos rfl] at H
        obtain rfl := Option.some.inj H
        go_wp2
        repeat (go_quiet (fail); try go_wp2)
        go_ret
        exact ⟨by first | rfl | (simp [errW_none, errW_some] <;> rfl) | (simp [*, errW_none, errW_some] <;> rfl), by repeat (first | (with_reducible first | exact HB.out | apply below_alloc | apply pw_below_drewN | apply below_drew1) | exact HB.out)⟩
      · replace c7 := Bool.eq_false_iff.mpr c7
        subst c7
        rw [if_neg (show ¬ (false = true) by decide)] at H
        have H' := Aside0.mk H
        clear H
        go_wp2
        repeat (go_quiet (fail); try go_wp2)
        go_loopg [5] kj2 (fun kq v5 w' => ∃ (x5_2 : Int), v5 = .int .i64 x5_2 ∧ Aside0 (scrivenerref07_MayFrags.l0 kq a0 l1 x5_2 = some r) ∧ Aside0 (kq ≤ kj2) ∧ Aside0 (Below w.heap.size w w'))
        case atStart => exact ⟨(0), (by first | rfl | (simp; done) | (simp [*]; done)), H', ⟨Nat.le_refl _⟩, ⟨by repeat (first | (with_reducible first | exact HB.out | apply below_alloc | apply pw_below_drewN | apply below_drew1) | exact HB.out)⟩⟩
        case round =>
          clear H'
          try clear c1
          try clear p1
          try clear q1
          try clear hx1
          try clear qi1
          try clear p2
          try clear c4
          try clear c4b0
          try clear c4b1
          try clear c5
          try clear c5b0
          try clear c5b1
          try clear c6
          try clear c6b0
          try clear c6b1
          try clear c7
          try clear hx103_0
          try clear hx103_1
          try clear p1
          try clear p103
          try clear p2
          try clear q1
          try clear q103
          obtain ⟨x5_2, rfl, HA, HK2, HB⟩ := hrel
          cases gk with
          | zero => exact absurd HA.out (by simp [scrivenerref07_MayFrags.l0])
          | succ k2 =>
            have H := HA.out
            clear HA
            simp only [scrivenerref07_MayFrags.l0] at H
            by_cases c8 : x5_2 < (l1.length : Int)
            · rw [if_pos c8] at H
              have c8b0 : decide (x5_2 < (l1.length : Int)) = true := decide_eq_true c8
              clear c8
              by_cases c9 : 0 ≤ x5_2
              · rw [if_pos c9] at H
                have c9b0 : decide (0 ≤ x5_2) = true := decide_eq_true c9
                clear c9
                have HC10 := Aside0.mk H
                clear H
                have p104 : 0 ≤ (x5_2 : Int) := of_decide_eq_true (by first | (with_reducible assumption) | assumption)
                have q104 : x5_2 < (l1.length : Int) := of_decide_eq_true (by first | (with_reducible assumption) | assumption)
                obtain ⟨ad104, A104_1, c104_1, e104, hx104_0, hx104_1, hl104_1, hi104_1⟩ := at_T25 HR1.out x5_2 p104 q104
                cases e104
                replace hx104_0 := (HB.out.cell (World.block_lt_of_cell? w _ hx104_0)).trans hx104_0
                replace hx104_1 := (HB.out.cell (World.block_lt_of_cell? w _ hx104_1)).trans hx104_1
                have HR104_1 := Aside0.mk hi104_1
                have HC104_1 := Aside0.mk hl104_1
                clear hi104_1 hl104_1
                replace p104 := eq_true p104
                replace q104 := eq_true q104
                go_upto_region 7 with (fail)
                repeat (go_quiet (fail); go_upto_region 7 with (fail))
                go_cut [69] (fun v69 wc => ∃ (kq : Nat) (x69_9 : Bool), v69 = .bool x69_9 ∧ Aside0 (scrivenerref07_MayFrags.j2 kq a0 l1 x5_2 ((rd_T25 l1 x5_2).f1) x69_9 = some r) ∧ Aside0 (kq ≤ k2) ∧ Aside0 (Below w.heap.size w wc))
                case first =>
                  have H := HC10.out
                  clear HC10
                  by_cases c11 : ((rd_T25 l1 x5_2).f0) > 9
                  · rw [if_pos c11] at H
                    have c11b0 : decide (9 < ((rd_T25 l1 x5_2).f0)) = true := decide_eq_true c11
                    clear c11
                    (first | rw [c11b0] | (simp only [i64_w, i32_w]; rw [c11b0]) | skip)
                    have H' := Aside0.mk H
                    clear H
                    have p105 : 0 ≤ (x5_2 : Int) := of_decide_eq_true (by first | (with_reducible assumption) | assumption)
                    have q105 : x5_2 < (l1.length : Int) := of_decide_eq_true (by first | (with_reducible assumption) | assumption)
                    obtain ⟨ad105, A105_1, c105_1, e105, hx105_0, hx105_1, hl105_1, hi105_1⟩ := at_T25 HR1.out x5_2 p105 q105
                    obtain rfl : ad104 = ad105 := (by injection e105)
                    replace hx105_0 := (HB.out.cell (World.block_lt_of_cell? w _ hx105_0)).trans hx105_0
                    replace hx105_1 := (HB.out.cell (World.block_lt_of_cell? w _ hx105_1)).trans hx105_1
                    have HR105_1 := Aside0.mk hi105_1
                    have HC105_1 := Aside0.mk hl105_1
                    clear hi105_1 hl105_1
                    replace p105 := eq_true p105
                    replace q105 := eq_true q105
                    go_wp2
                    repeat (go_quiet (fail); try go_wp2)
                    go_meet
                    case rel => exact ⟨_, (true), (by first | rfl | (simp; done) | (simp [*]; done)), H', ⟨by have := HJ2.out; have := HK2.out; first | omega | exact Nat.le_refl _⟩, ⟨by repeat (first | (with_reducible first | exact HB.out | apply below_alloc | apply pw_below_drewN | apply below_drew1) | exact HB.out)⟩⟩
                  · rw [if_neg c11] at H
                    have c11b0 : decide (9 < ((rd_T25 l1 x5_2).f0)) = false := decide_eq_false c11
                    clear c11
                    (first | rw [c11b0] | (simp only [i64_w, i32_w]; rw [c11b0]) | skip)
                    by_cases c12 : x5_2 > 0
                    · rw [if_pos c12] at H
                      have c12b0 : decide (0 < x5_2) = true := decide_eq_true c12
                      clear c12
                      obtain ⟨ji13, hji13⟩ : ∃ j_ : Int, (wrap64 (x5_2 - 1)) = j_ := ⟨_, rfl⟩
                      replace H : (if 0 ≤ (ji13) then (if (ji13) < (l1.length : Int) then (if ((rd_T25 l1 x5_2).f0) ≤ ((rd_T25 l1 (ji13)).f0) then (scrivenerref07_MayFrags.j2 k2 a0 l1 x5_2 ((rd_T25 l1 x5_2).f1) true) else (if (((rd_T25 l1 x5_2).f1).length : Int) < a0 then (scrivenerref07_MayFrags.j2 k2 a0 l1 x5_2 ((rd_T25 l1 x5_2).f1) true) else (scrivenerref07_MayFrags.j2 k2 a0 l1 x5_2 ((rd_T25 l1 x5_2).f1) (decide ((((rd_T25 l1 x5_2).f1).length : Int) > 5))))) else (none)) else (none)) = some r := by first | (rw [hji13] at H; exact H) | (simp only [hji13] at H ⊢; exact H)
                      have hji13w : (IntKind.i64.wrap (x5_2 - 1)) = ji13 := (i64_w _).trans hji13
                      by_cases c14 : 0 ≤ (ji13)
                      · rw [if_pos c14] at H
                        have c14b0 : decide (0 ≤ (ji13)) = true := decide_eq_true c14
                        clear c14
                        by_cases c15 : (ji13) < (l1.length : Int)
                        · rw [if_pos c15] at H
                          have c15b0 : decide ((ji13) < (l1.length : Int)) = true := decide_eq_true c15
                          clear c15
                          by_cases c16 : ((rd_T25 l1 x5_2).f0) ≤ ((rd_T25 l1 (ji13)).f0)
                          · rw [if_pos c16] at H
                            have c16b0 : decide (((rd_T25 l1 x5_2).f0) ≤ ((rd_T25 l1 (ji13)).f0)) = true := decide_eq_true c16
                            clear c16
                            have H' := Aside0.mk H
                            clear H
                            have p105 : 0 ≤ (x5_2 : Int) := of_decide_eq_true (by first | (with_reducible assumption) | assumption)
                            have q105 : x5_2 < (l1.length : Int) := of_decide_eq_true (by first | (with_reducible assumption) | assumption)
                            obtain ⟨ad105, A105_1, c105_1, e105, hx105_0, hx105_1, hl105_1, hi105_1⟩ := at_T25 HR1.out x5_2 p105 q105
                            obtain rfl : ad104 = ad105 := (by injection e105)
                            replace hx105_0 := (HB.out.cell (World.block_lt_of_cell? w _ hx105_0)).trans hx105_0
                            replace hx105_1 := (HB.out.cell (World.block_lt_of_cell? w _ hx105_1)).trans hx105_1
                            have HR105_1 := Aside0.mk hi105_1
                            have HC105_1 := Aside0.mk hl105_1
                            clear hi105_1 hl105_1
                            replace p105 := eq_true p105
                            replace q105 := eq_true q105
                            have p106 : 0 ≤ (x5_2 : Int) := of_decide_eq_true (by first | (with_reducible assumption) | assumption)
                            have q106 : x5_2 < (l1.length : Int) := of_decide_eq_true (by first | (with_reducible assumption) | assumption)
                            obtain ⟨ad106, A106_1, c106_1, e106, hx106_0, hx106_1, hl106_1, hi106_1⟩ := at_T25 HR1.out x5_2 p106 q106
                            obtain rfl : ad104 = ad106 := (by injection e106)
                            replace hx106_0 := (HB.out.cell (World.block_lt_of_cell? w _ hx106_0)).trans hx106_0
                            replace hx106_1 := (HB.out.cell (World.block_lt_of_cell? w _ hx106_1)).trans hx106_1
                            have HR106_1 := Aside0.mk hi106_1
                            have HC106_1 := Aside0.mk hl106_1
                            clear hi106_1 hl106_1
                            replace p106 := eq_true p106
                            replace q106 := eq_true q106
                            have ea_ := Option.some.inj (hx105_1.symm.trans hx106_1)
                            injection ea_ with ea_ en_ ec_
                            subst ea_
                            subst ec_
                            clear en_
                            have p107 : 0 ≤ ((ji13) : Int) := of_decide_eq_true (by first | (with_reducible assumption) | assumption)
                            have q107 : (ji13) < (l1.length : Int) := of_decide_eq_true (by first | (with_reducible assumption) | assumption)
                            obtain ⟨ad107, A107_1, c107_1, e107, hx107_0, hx107_1, hl107_1, hi107_1⟩ := at_T25 HR1.out (ji13) p107 q107
                            obtain rfl : ad104 = ad107 := (by injection e107)
                            replace hx107_0 := (HB.out.cell (World.block_lt_of_cell? w _ hx107_0)).trans hx107_0
                            replace hx107_1 := (HB.out.cell (World.block_lt_of_cell? w _ hx107_1)).trans hx107_1
                            have HR107_1 := Aside0.mk hi107_1
                            have HC107_1 := Aside0.mk hl107_1
                            clear hi107_1 hl107_1
                            replace p107 := eq_true p107
                            replace q107 := eq_true q107
                            go_wp2
                            repeat (go_quiet (fail); try go_wp2)
                            go_meet
                            case rel => exact ⟨_, (true), (by first | rfl | (simp; done) | (simp [*]; done)), H', ⟨by have := HJ2.out; have := HK2.out; first | omega | exact Nat.le_refl _⟩, ⟨by repeat (first | (with_reducible first | exact HB.out | apply below_alloc | apply pw_below_drewN | apply below_drew1) | exact HB.out)⟩⟩
                          · rw [if_neg c16] at H
                            have c16b0 : decide (((rd_T25 l1 x5_2).f0) ≤ ((rd_T25 l1 (ji13)).f0)) = false := decide_eq_false c16
                            clear c16
                            by_cases c17 : (((rd_T25 l1 x5_2).f1).length : Int) < a0
                            · rw [if_pos c17] at H
                              have c17b0 : decide ((((rd_T25 l1 x5_2).f1).length : Int) < a0) = true := decide_eq_true c17
                              clear c17
                              have H' := Aside0.mk H
                              clear H
                              have p105 : 0 ≤ (x5_2 : Int) := of_decide_eq_true (by first | (with_reducible assumption) | assumption)
                              have q105 : x5_2 < (l1.length : Int) := of_decide_eq_true (by first | (with_reducible assumption) | assumption)
                              obtain ⟨ad105, A105_1, c105_1, e105, hx105_0, hx105_1, hl105_1, hi105_1⟩ := at_T25 HR1.out x5_2 p105 q105
                              obtain rfl : ad104 = ad105 := (by injection e105)
                              replace hx105_0 := (HB.out.cell (World.block_lt_of_cell? w _ hx105_0)).trans hx105_0
                              replace hx105_1 := (HB.out.cell (World.block_lt_of_cell? w _ hx105_1)).trans hx105_1
                              have HR105_1 := Aside0.mk hi105_1
                              have HC105_1 := Aside0.mk hl105_1
                              clear hi105_1 hl105_1
                              replace p105 := eq_true p105
                              replace q105 := eq_true q105
                              have p106 : 0 ≤ (x5_2 : Int) := of_decide_eq_true (by first | (with_reducible assumption) | assumption)
                              have q106 : x5_2 < (l1.length : Int) := of_decide_eq_true (by first | (with_reducible assumption) | assumption)
                              obtain ⟨ad106, A106_1, c106_1, e106, hx106_0, hx106_1, hl106_1, hi106_1⟩ := at_T25 HR1.out x5_2 p106 q106
                              obtain rfl : ad104 = ad106 := (by injection e106)
                              replace hx106_0 := (HB.out.cell (World.block_lt_of_cell? w _ hx106_0)).trans hx106_0
                              replace hx106_1 := (HB.out.cell (World.block_lt_of_cell? w _ hx106_1)).trans hx106_1
                              have HR106_1 := Aside0.mk hi106_1
                              have HC106_1 := Aside0.mk hl106_1
                              clear hi106_1 hl106_1
                              replace p106 := eq_true p106
                              replace q106 := eq_true q106
                              have ea_ := Option.some.inj (hx105_1.symm.trans hx106_1)
                              injection ea_ with ea_ en_ ec_
                              subst ea_
                              subst ec_
                              clear en_
                              have p107 : 0 ≤ ((ji13) : Int) := of_decide_eq_true (by first | (with_reducible assumption) | assumption)
                              have q107 : (ji13) < (l1.length : Int) := of_decide_eq_true (by first | (with_reducible assumption) | assumption)
                              obtain ⟨ad107, A107_1, c107_1, e107, hx107_0, hx107_1, hl107_1, hi107_1⟩ := at_T25 HR1.out (ji13) p107 q107
                              obtain rfl : ad104 = ad107 := (by injection e107)
                              replace hx107_0 := (HB.out.cell (World.block_lt_of_cell? w _ hx107_0)).trans hx107_0
                              replace hx107_1 := (HB.out.cell (World.block_lt_of_cell? w _ hx107_1)).trans hx107_1
                              have HR107_1 := Aside0.mk hi107_1
                              have HC107_1 := Aside0.mk hl107_1
                              clear hi107_1 hl107_1
                              replace p107 := eq_true p107
                              replace q107 := eq_true q107
                              go_wp2
                              repeat (go_quiet (fail); try go_wp2)
                              go_meet
                              case rel => exact ⟨_, (true), (by first | rfl | (simp; done) | (simp [*]; done)), H', ⟨by have := HJ2.out; have := HK2.out; first | omega | exact Nat.le_refl _⟩, ⟨by repeat (first | (with_reducible first | exact HB.out | apply below_alloc | apply pw_below_drewN | apply below_drew1) | exact HB.out)⟩⟩
                            · rw [if_neg c17] at H
                              have c17b0 : decide ((((rd_T25 l1 x5_2).f1).length : Int) < a0) = false := decide_eq_false c17
                              clear c17
                              have H' := Aside0.mk H
                              clear H
                              have p105 : 0 ≤ (x5_2 : Int) := of_decide_eq_true (by first | (with_reducible assumption) | assumption)
                              have q105 : x5_2 < (l1.length : Int) := of_decide_eq_true (by first | (with_reducible assumption) | assumption)
                              obtain ⟨ad105, A105_1, c105_1, e105, hx105_0, hx105_1, hl105_1, hi105_1⟩ := at_T25 HR1.out x5_2 p105 q105
                              obtain rfl : ad104 = ad105 := (by injection e105)
                              replace hx105_0 := (HB.out.cell (World.block_lt_of_cell? w _ hx105_0)).trans hx105_0
                              replace hx105_1 := (HB.out.cell (World.block_lt_of_cell? w _ hx105_1)).trans hx105_1
                              have HR105_1 := Aside0.mk hi105_1
                              have HC105_1 := Aside0.mk hl105_1
                              clear hi105_1 hl105_1
                              replace p105 := eq_true p105
                              replace q105 := eq_true q105
                              have p106 : 0 ≤ (x5_2 : Int) := of_decide_eq_true (by first | (with_reducible assumption) | assumption)
                              have q106 : x5_2 < (l1.length : Int) := of_decide_eq_true (by first | (with_reducible assumption) | assumption)
                              obtain ⟨ad106, A106_1, c106_1, e106, hx106_0, hx106_1, hl106_1, hi106_1⟩ := at_T25 HR1.out x5_2 p106 q106
                              obtain rfl : ad104 = ad106 := (by injection e106)
                              replace hx106_0 := (HB.out.cell (World.block_lt_of_cell? w _ hx106_0)).trans hx106_0
                              replace hx106_1 := (HB.out.cell (World.block_lt_of_cell? w _ hx106_1)).trans hx106_1
                              have HR106_1 := Aside0.mk hi106_1
                              have HC106_1 := Aside0.mk hl106_1
                              clear hi106_1 hl106_1
                              replace p106 := eq_true p106
                              replace q106 := eq_true q106
                              have ea_ := Option.some.inj (hx105_1.symm.trans hx106_1)
                              injection ea_ with ea_ en_ ec_
                              subst ea_
                              subst ec_
                              clear en_
                              have p107 : 0 ≤ ((ji13) : Int) := of_decide_eq_true (by first | (with_reducible assumption) | assumption)
                              have q107 : (ji13) < (l1.length : Int) := of_decide_eq_true (by first | (with_reducible assumption) | assumption)
                              obtain ⟨ad107, A107_1, c107_1, e107, hx107_0, hx107_1, hl107_1, hi107_1⟩ := at_T25 HR1.out (ji13) p107 q107
                              obtain rfl : ad104 = ad107 := (by injection e107)
                              replace hx107_0 := (HB.out.cell (World.block_lt_of_cell? w _ hx107_0)).trans hx107_0
                              replace hx107_1 := (HB.out.cell (World.block_lt_of_cell? w _ hx107_1)).trans hx107_1
                              have HR107_1 := Aside0.mk hi107_1
                              have HC107_1 := Aside0.mk hl107_1
                              clear hi107_1 hl107_1
                              replace p107 := eq_true p107
                              replace q107 := eq_true q107
                              go_wp2
                              repeat (go_quiet (fail); try go_wp2)
                              go_meet
                              case rel => exact ⟨_, (decide ((((rd_T25 l1 x5_2).f1).length : Int) > 5)), (by first | rfl | (simp; done) | (simp [*]; done)), H', ⟨by have := HJ2.out; have := HK2.out; first | omega | exact Nat.le_refl _⟩, ⟨by repeat (first | (with_reducible first | exact HB.out | apply below_alloc | apply pw_below_drewN | apply below_drew1) | exact HB.out)⟩⟩
                        · rw [if_neg c15] at H
                          exact absurd H (by simp)
                      · rw [if_neg c14] at H
                        exact absurd H (by simp)
                    · rw [if_neg c12] at H
                      have c12b0 : decide (0 < x5_2) = false := decide_eq_false c12
                      clear c12
                      by_cases c18 : (((rd_T25 l1 x5_2).f1).length : Int) < a0
                      · rw [if_pos c18] at H
                        have c18b0 : decide ((((rd_T25 l1 x5_2).f1).length : Int) < a0) = true := decide_eq_true c18
                        clear c18
                        have H' := Aside0.mk H
                        clear H
                        have p105 : 0 ≤ (x5_2 : Int) := of_decide_eq_true (by first | (with_reducible assumption) | assumption)
                        have q105 : x5_2 < (l1.length : Int) := of_decide_eq_true (by first | (with_reducible assumption) | assumption)
                        obtain ⟨ad105, A105_1, c105_1, e105, hx105_0, hx105_1, hl105_1, hi105_1⟩ := at_T25 HR1.out x5_2 p105 q105
                        obtain rfl : ad104 = ad105 := (by injection e105)
                        replace hx105_0 := (HB.out.cell (World.block_lt_of_cell? w _ hx105_0)).trans hx105_0
                        replace hx105_1 := (HB.out.cell (World.block_lt_of_cell? w _ hx105_1)).trans hx105_1
                        have HR105_1 := Aside0.mk hi105_1
                        have HC105_1 := Aside0.mk hl105_1
                        clear hi105_1 hl105_1
                        replace p105 := eq_true p105
                        replace q105 := eq_true q105
                        go_wp2
                        repeat (go_quiet (fail); try go_wp2)
                        go_meet
                        case rel => exact ⟨_, (true), (by first | rfl | (simp; done) | (simp [*]; done)), H', ⟨by have := HJ2.out; have := HK2.out; first | omega | exact Nat.le_refl _⟩, ⟨by repeat (first | (with_reducible first | exact HB.out | apply below_alloc | apply pw_below_drewN | apply below_drew1) | exact HB.out)⟩⟩
                      · rw [if_neg c18] at H
                        have c18b0 : decide ((((rd_T25 l1 x5_2).f1).length : Int) < a0) = false := decide_eq_false c18
                        clear c18
                        have H' := Aside0.mk H
                        clear H
                        have p105 : 0 ≤ (x5_2 : Int) := of_decide_eq_true (by first | (with_reducible assumption) | assumption)
                        have q105 : x5_2 < (l1.length : Int) := of_decide_eq_true (by first | (with_reducible assumption) | assumption)
                        obtain ⟨ad105, A105_1, c105_1, e105, hx105_0, hx105_1, hl105_1, hi105_1⟩ := at_T25 HR1.out x5_2 p105 q105
                        obtain rfl : ad104 = ad105 := (by injection e105)
                        replace hx105_0 := (HB.out.cell (World.block_lt_of_cell? w _ hx105_0)).trans hx105_0
                        replace hx105_1 := (HB.out.cell (World.block_lt_of_cell? w _ hx105_1)).trans hx105_1
                        have HR105_1 := Aside0.mk hi105_1
                        have HC105_1 := Aside0.mk hl105_1
                        clear hi105_1 hl105_1
                        replace p105 := eq_true p105
                        replace q105 := eq_true q105
                        go_wp2
                        repeat (go_quiet (fail); try go_wp2)
                        go_meet
                        case rel => exact ⟨_, (decide ((((rd_T25 l1 x5_2).f1).length : Int) > 5)), (by first | rfl | (simp; done) | (simp [*]; done)), H', ⟨by have := HJ2.out; have := HK2.out; first | omega | exact Nat.le_refl _⟩, ⟨by repeat (first | (with_reducible first | exact HB.out | apply below_alloc | apply pw_below_drewN | apply below_drew1) | exact HB.out)⟩⟩
                case rest =>
                  clear HC10
                  try clear c1
                  try clear p1
                  try clear q1
                  try clear hx1
                  try clear qi1
                  try clear p2
                  try clear c4
                  try clear c4b0
                  try clear c4b1
                  try clear c5
                  try clear c5b0
                  try clear c5b1
                  try clear c6
                  try clear c6b0
                  try clear c6b1
                  try clear p6
                  try clear c7
                  try clear c8
                  try clear c8b0
                  try clear c9
                  try clear c9b0
                  try clear c10
                  try clear p10
                  try clear q10
                  try clear hx10
                  try clear qi10
                  try clear c11
                  try clear c11b0
                  try clear c12
                  try clear c12b0
                  try clear c14
                  try clear c14b0
                  try clear c15
                  try clear c15b0
                  try clear c16
                  try clear c16b0
                  try clear c17
                  try clear c17b0
                  try clear c18
                  try clear c18b0
                  try clear hx103_0
                  try clear hx103_1
                  try clear hx104_0
                  try clear hx104_1
                  try clear hx105_0
                  try clear hx105_1
                  try clear hx106_0
                  try clear hx106_1
                  try clear hx107_0
                  try clear hx107_1
                  try clear p1
                  try clear p103
                  try clear p104
                  try clear p105
                  try clear p106
                  try clear p107
                  try clear p2
                  try clear q1
                  try clear q103
                  try clear q104
                  try clear q105
                  try clear q106
                  try clear q107
                  obtain ⟨kq, x69_9, rfl, HA, HJ9, HB⟩ := hcut
                  cases kq with
                  | zero => exact absurd HA.out (by simp [scrivenerref07_MayFrags.j2])
                  | succ kj9 =>
                    have H := HA.out
                    clear HA
                    simp only [scrivenerref07_MayFrags.j2] at H
                    by_cases c19 : x69_9 = true
                    · subst c19
                      rw [if_pos rfl] at H
                      obtain rfl := Option.some.inj H
                      go_wp2
                      repeat (go_quiet (fail); try go_wp2)
                      go_ret
                      exact ⟨by first | rfl | (simp [errW_none, errW_some] <;> rfl) | (simp [*, errW_none, errW_some] <;> rfl), by repeat (first | (with_reducible first | exact HB.out | apply below_alloc | apply pw_below_drewN | apply below_drew1) | exact HB.out)⟩
                    · replace c19 := Bool.eq_false_iff.mpr c19
                      subst c19
                      rw [if_neg (show ¬ (false = true) by decide)] at H
                      have H' := Aside0.mk H
                      clear H
                      go_wp2
                      repeat (go_quiet (fail); try go_wp2)
                      go_loopg [7] kj9 (fun kq v7 w' => ∃ (x7_4 : Int), v7 = .int .i64 x7_4 ∧ Aside0 (scrivenerref07_MayFrags.l1 kq a0 l1 x5_2 ((rd_T25 l1 x5_2).f1) x7_4 = some r) ∧ Aside0 (kq ≤ kj9) ∧ Aside0 (Below w.heap.size w w'))
                      case atStart => exact ⟨(0), (by first | rfl | (simp; done) | (simp [*]; done)), H', ⟨Nat.le_refl _⟩, ⟨by repeat (first | (with_reducible first | exact HB.out | apply below_alloc | apply pw_below_drewN | apply below_drew1) | exact HB.out)⟩⟩
                      case round =>
                        clear H'
                        try clear c1
                        try clear p1
                        try clear q1
                        try clear hx1
                        try clear qi1
                        try clear p2
                        try clear c4
                        try clear c4b0
                        try clear c4b1
                        try clear c5
                        try clear c5b0
                        try clear c5b1
                        try clear c6
                        try clear c6b0
                        try clear c6b1
                        try clear p6
                        try clear c7
                        try clear c8
                        try clear c8b0
                        try clear c9
                        try clear c9b0
                        try clear c10
                        try clear p10
                        try clear q10
                        try clear hx10
                        try clear qi10
                        try clear c11
                        try clear c11b0
                        try clear c12
                        try clear c12b0
                        try clear c14
                        try clear c14b0
                        try clear c15
                        try clear c15b0
                        try clear c16
                        try clear c16b0
                        try clear c17
                        try clear c17b0
                        try clear c18
                        try clear c18b0
                        try clear c19
                        try clear hx103_0
                        try clear hx103_1
                        try clear hx104_0
                        try clear hx104_1
                        try clear hx105_0
                        try clear hx105_1
                        try clear hx106_0
                        try clear hx106_1
                        try clear hx107_0
                        try clear hx107_1
                        try clear p1
                        try clear p10
                        try clear p103
                        try clear p104
                        try clear p105
                        try clear p106
                        try clear p107
                        try clear p2
                        try clear p6
                        try clear q1
                        try clear q10
                        try clear q103
                        try clear q104
                        try clear q105
                        try clear q106
                        try clear q107
                        obtain ⟨x7_4, rfl, HA, HK4, HB⟩ := hrel
                        cases gk with
                        | zero => exact absurd HA.out (by simp [scrivenerref07_MayFrags.l1])
                        | succ k4 =>
                          have H := HA.out
                          clear HA
                          simp only [scrivenerref07_MayFrags.l1] at H
                          by_cases c20 : x7_4 < (((rd_T25 l1 x5_2).f1).length : Int)
                          · rw [if_pos c20] at H
                            have c20b0 : decide (x7_4 < (((rd_T25 l1 x5_2).f1).length : Int)) = true := decide_eq_true c20
                            clear c20
                            by_cases c21 : 0 ≤ x7_4
                            · rw [if_pos c21] at H
                              have c21b0 : decide (0 ≤ x7_4) = true := decide_eq_true c21
                              clear c21
                              replace H := Option.bind_eq_some_iff.mp H
                              obtain ⟨t109, A220, H⟩ := H
                              replace H : (if t109 = true then (scrivenerref07_MayFrags.l2 k4 a0 l1 x5_2 ((rd_T25 l1 x5_2).f1) x7_4 0) else (some false)) = some r := H
                              have A22 := Aside0.mk A220
                              clear A220
                              by_cases c23 : t109 = true
                              · subst c23
                                rw [if_pos rfl] at H
                                have H' := Aside0.mk H
                                clear H
                                have p108 : 0 ≤ (x7_4 : Int) := of_decide_eq_true (by first | (with_reducible assumption) | assumption)
                                have q108 : x7_4 < (((rd_T25 l1 x5_2).f1).length : Int) := of_decide_eq_true (by first | (with_reducible assumption) | assumption)
                                obtain ⟨ad108, e108, hx108_0, hx108_1⟩ := at_T32 HR104_1.out x7_4 p108 q108
                                cases e108
                                replace hx108_0 := (HB.out.cell (World.block_lt_of_cell? w _ hx108_0)).trans hx108_0
                                replace hx108_1 := (HB.out.cell (World.block_lt_of_cell? w _ hx108_1)).trans hx108_1
                                replace p108 := eq_true p108
                                replace q108 := eq_true q108
                                go_wp2_with (first | (go_at_call 32; (with_reducible refine (scrivenerref07_MayPlace.calls ((rd_T32 ((rd_T25 l1 x5_2).f1) x7_4).f0) ((rd_T32 ((rd_T25 l1 x5_2).f1) x7_4).f1) true _ A22.out).mono ?_); rintro e w24 ⟨rfl, hb⟩; have n0_ := Aside0.mk (below_step (Hb HB.out) hb); clear HB; have HB := n0_; clear n0_; (try clear hb); (try clear hb2); (try clear hk); (try clear hi)))
                                repeat (go_quiet (first | (go_at_call 32; (with_reducible refine (scrivenerref07_MayPlace.calls ((rd_T32 ((rd_T25 l1 x5_2).f1) x7_4).f0) ((rd_T32 ((rd_T25 l1 x5_2).f1) x7_4).f1) true _ A22.out).mono ?_); rintro e w24 ⟨rfl, hb⟩; have n0_ := Aside0.mk (below_step (Hb HB.out) hb); clear HB; have HB := n0_; clear n0_; (try clear hb); (try clear hb2); (try clear hk); (try clear hi))); try go_wp2_with (first | (go_at_call 32; (with_reducible refine (scrivenerref07_MayPlace.calls ((rd_T32 ((rd_T25 l1 x5_2).f1) x7_4).f0) ((rd_T32 ((rd_T25 l1 x5_2).f1) x7_4).f1) true _ A22.out).mono ?_); rintro e w24 ⟨rfl, hb⟩; have n0_ := Aside0.mk (below_step (Hb HB.out) hb); clear HB; have HB := n0_; clear n0_; (try clear hb); (try clear hb2); (try clear hk); (try clear hi))))
                                go_loopg [8] k4 (fun kq v8 w' => ∃ (x8_5 : Int), v8 = .int .i64 x8_5 ∧ Aside0 (scrivenerref07_MayFrags.l2 kq a0 l1 x5_2 ((rd_T25 l1 x5_2).f1) x7_4 x8_5 = some r) ∧ Aside0 (kq ≤ k4) ∧ Aside0 (Below w.heap.size w w'))
                                case atStart => exact ⟨(0), (by first | rfl | (simp; done) | (simp [*]; done)), H', ⟨Nat.le_refl _⟩, ⟨by repeat (first | (with_reducible first | exact HB.out | apply below_alloc | apply pw_below_drewN | apply below_drew1) | exact HB.out)⟩⟩
                                case round =>
                                  clear H'
                                  try clear c1
                                  try clear p1
                                  try clear q1
                                  try clear hx1
                                  try clear qi1
                                  try clear c2
                                  try clear p2
                                  try clear c4
                                  try clear c4b0
                                  try clear c4b1
                                  try clear c5
                                  try clear c5b0
                                  try clear c5b1
                                  try clear c6
                                  try clear c6b0
                                  try clear c6b1
                                  try clear p6
                                  try clear c7
                                  try clear c8
                                  try clear c8b0
                                  try clear c9
                                  try clear c9b0
                                  try clear c10
                                  try clear p10
                                  try clear q10
                                  try clear hx10
                                  try clear qi10
                                  try clear c11
                                  try clear c11b0
                                  try clear c12
                                  try clear c12b0
                                  try clear c14
                                  try clear c14b0
                                  try clear c15
                                  try clear c15b0
                                  try clear c16
                                  try clear c16b0
                                  try clear c17
                                  try clear c17b0
                                  try clear c18
                                  try clear c18b0
                                  try clear c19
                                  try clear c20
                                  try clear c20b0
                                  try clear c21
                                  try clear c21b0
                                  try clear c23
                                  try clear hx103_0
                                  try clear hx103_1
                                  try clear hx104_0
                                  try clear hx104_1
                                  try clear hx105_0
                                  try clear hx105_1
                                  try clear hx106_0
                                  try clear hx106_1
                                  try clear hx107_0
                                  try clear hx107_1
                                  try clear hx108_0
                                  try clear hx108_1
                                  try clear p1
                                  try clear p10
                                  try clear p103
                                  try clear p104
                                  try clear p105
                                  try clear p106
                                  try clear p107
                                  try clear p108
                                  try clear p2
                                  try clear p6
                                  try clear q1
                                  try clear q10
                                  try clear q103
                                  try clear q104
                                  try clear q105
                                  try clear q106
                                  try clear q107
                                  try clear q108
                                  obtain ⟨x8_5, rfl, HA, HK5, HB⟩ := hrel
                                  cases gk with
                                  | zero => exact absurd HA.out (by simp [scrivenerref07_MayFrags.l2])
                                  | succ k5 =>
                                    have H := HA.out
                                    clear HA
                                    simp only [scrivenerref07_MayFrags.l2] at H
                                    by_cases c25 : x8_5 < x7_4
                                    · rw [if_pos c25] at H
                                      have c25b0 : decide (x8_5 < x7_4) = true := decide_eq_true c25
                                      clear c25
                                      by_cases c26 : 0 ≤ x8_5
                                      · rw [if_pos c26] at H
                                        have c26b0 : decide (0 ≤ x8_5) = true := decide_eq_true c26
                                        clear c26
                                        by_cases c27 : x8_5 < (((rd_T25 l1 x5_2).f1).length : Int)
                                        · rw [if_pos c27] at H
                                          have c27b0 : decide (x8_5 < (((rd_T25 l1 x5_2).f1).length : Int)) = true := decide_eq_true c27
                                          clear c27
                                          by_cases c28 : 0 ≤ x7_4
                                          · rw [if_pos c28] at H
                                            have c28b0 : decide (0 ≤ x7_4) = true := decide_eq_true c28
                                            clear c28
                                            by_cases c29 : x7_4 < (((rd_T25 l1 x5_2).f1).length : Int)
                                            · rw [if_pos c29] at H
                                              have c29b0 : decide (x7_4 < (((rd_T25 l1 x5_2).f1).length : Int)) = true := decide_eq_true c29
                                              clear c29
                                              by_cases c30 : ((rd_T32 ((rd_T25 l1 x5_2).f1) x8_5).f0) = ((rd_T32 ((rd_T25 l1 x5_2).f1) x7_4).f0)
                                              · rw [if_pos c30] at H
                                                have c30b0 : (((rd_T32 ((rd_T25 l1 x5_2).f1) x8_5).f0) == ((rd_T32 ((rd_T25 l1 x5_2).f1) x7_4).f0)) = true := beq_iff_eq.mpr c30
                                                have c30b1 : (((rd_T32 ((rd_T25 l1 x5_2).f1) x8_5).f0) != ((rd_T32 ((rd_T25 l1 x5_2).f1) x7_4).f0)) = false := bne_eq_false_iff_eq.mpr c30
                                                clear c30
                                                obtain rfl := Option.some.inj H
                                                have p110 : 0 ≤ (x8_5 : Int) := of_decide_eq_true (by first | (with_reducible assumption) | assumption)
                                                have q110 : x8_5 < (((rd_T25 l1 x5_2).f1).length : Int) := of_decide_eq_true (by first | (with_reducible assumption) | assumption)
                                                obtain ⟨ad110, e110, hx110_0, hx110_1⟩ := at_T32 HR104_1.out x8_5 p110 q110
                                                obtain rfl : ad108 = ad110 := (by injection e110)
                                                replace hx110_0 := (HB.out.cell (World.block_lt_of_cell? w _ hx110_0)).trans hx110_0
                                                replace hx110_1 := (HB.out.cell (World.block_lt_of_cell? w _ hx110_1)).trans hx110_1
                                                replace p110 := eq_true p110
                                                replace q110 := eq_true q110
                                                have p111 : 0 ≤ (x7_4 : Int) := of_decide_eq_true (by first | (with_reducible assumption) | assumption)
                                                have q111 : x7_4 < (((rd_T25 l1 x5_2).f1).length : Int) := of_decide_eq_true (by first | (with_reducible assumption) | assumption)
                                                obtain ⟨ad111, e111, hx111_0, hx111_1⟩ := at_T32 HR104_1.out x7_4 p111 q111
                                                obtain rfl : ad108 = ad111 := (by injection e111)
                                                replace hx111_0 := (HB.out.cell (World.block_lt_of_cell? w _ hx111_0)).trans hx111_0
                                                replace hx111_1 := (HB.out.cell (World.block_lt_of_cell? w _ hx111_1)).trans hx111_1
                                                replace p111 := eq_true p111
                                                replace q111 := eq_true q111
                                                go_wp2
                                                repeat (go_quiet (fail); try go_wp2)
                                                go_ret
                                                exact ⟨by first | rfl | (simp [errW_none, errW_some] <;> rfl) | (simp [*, errW_none, errW_some] <;> rfl), by repeat (first | (with_reducible first | exact HB.out | apply below_alloc | apply pw_below_drewN | apply below_drew1) | exact HB.out)⟩
                                              · rw [if_neg c30] at H
                                                have c30b0 : (((rd_T32 ((rd_T25 l1 x5_2).f1) x8_5).f0) == ((rd_T32 ((rd_T25 l1 x5_2).f1) x7_4).f0)) = false := beq_eq_false_iff_ne.mpr c30
                                                have c30b1 : (((rd_T32 ((rd_T25 l1 x5_2).f1) x8_5).f0) != ((rd_T32 ((rd_T25 l1 x5_2).f1) x7_4).f0)) = true := bne_iff_ne.mpr c30
                                                have H' := Aside0.mk H
                                                clear H
                                                have p110 : 0 ≤ (x8_5 : Int) := of_decide_eq_true (by first | (with_reducible assumption) | assumption)
                                                have q110 : x8_5 < (((rd_T25 l1 x5_2).f1).length : Int) := of_decide_eq_true (by first | (with_reducible assumption) | assumption)
                                                obtain ⟨ad110, e110, hx110_0, hx110_1⟩ := at_T32 HR104_1.out x8_5 p110 q110
                                                obtain rfl : ad108 = ad110 := (by injection e110)
                                                replace hx110_0 := (HB.out.cell (World.block_lt_of_cell? w _ hx110_0)).trans hx110_0
                                                replace hx110_1 := (HB.out.cell (World.block_lt_of_cell? w _ hx110_1)).trans hx110_1
                                                replace p110 := eq_true p110
                                                replace q110 := eq_true q110
                                                have p111 : 0 ≤ (x7_4 : Int) := of_decide_eq_true (by first | (with_reducible assumption) | assumption)
                                                have q111 : x7_4 < (((rd_T25 l1 x5_2).f1).length : Int) := of_decide_eq_true (by first | (with_reducible assumption) | assumption)
                                                obtain ⟨ad111, e111, hx111_0, hx111_1⟩ := at_T32 HR104_1.out x7_4 p111 q111
                                                obtain rfl : ad108 = ad111 := (by injection e111)
                                                replace hx111_0 := (HB.out.cell (World.block_lt_of_cell? w _ hx111_0)).trans hx111_0
                                                replace hx111_1 := (HB.out.cell (World.block_lt_of_cell? w _ hx111_1)).trans hx111_1
                                                replace p111 := eq_true p111
                                                replace q111 := eq_true q111
                                                go_wp2
                                                repeat (go_quiet (fail); try go_wp2)
                                                go_roundg k5
                                                case measure => have := HJ2.out; have := HK2.out; have := HJ9.out; have := HK4.out; have := HK5.out; omega
                                                case rel => exact ⟨(wrap64 (x8_5 + 1)), (by first | rfl | (simp; done) | (simp [*]; done)), H', ⟨by have := HJ2.out; have := HK2.out; have := HJ9.out; have := HK4.out; have := HK5.out; omega⟩, ⟨by repeat (first | (with_reducible first | exact HB.out | apply below_alloc | apply pw_below_drewN | apply below_drew1) | exact HB.out)⟩⟩
                                            · rw [if_neg c29] at H
                                              exact absurd H (by simp)
                                          · rw [if_neg c28] at H
                                            exact absurd H (by simp)
                                        · rw [if_neg c27] at H
                                          exact absurd H (by simp)
                                      · rw [if_neg c26] at H
                                        exact absurd H (by simp)
                                    · rw [if_neg c25] at H
                                      have c25b0 : decide (x8_5 < x7_4) = false := decide_eq_false c25
                                      clear c25
                                      have H' := Aside0.mk H
                                      clear H
                                      go_wp2
                                      repeat (go_quiet (fail); try go_wp2)
                                      go_roundg k5
                                      case measure => have := HJ2.out; have := HK2.out; have := HJ9.out; have := HK4.out; have := HK5.out; omega
                                      case rel => exact ⟨(wrap64 (x7_4 + 1)), (by first | rfl | (simp; done) | (simp [*]; done)), H', ⟨by have := HJ2.out; have := HK2.out; have := HJ9.out; have := HK4.out; have := HK5.out; omega⟩, ⟨by repeat (first | (with_reducible first | exact HB.out | apply below_alloc | apply pw_below_drewN | apply below_drew1) | exact HB.out)⟩⟩
                              · replace c23 := Bool.eq_false_iff.mpr c23
                                subst c23
                                rw [if_neg (show ¬ (false = true) by decide)] at H
                                obtain rfl := Option.some.inj H
                                have p108 : 0 ≤ (x7_4 : Int) := of_decide_eq_true (by first | (with_reducible assumption) | assumption)
                                have q108 : x7_4 < (((rd_T25 l1 x5_2).f1).length : Int) := of_decide_eq_true (by first | (with_reducible assumption) | assumption)
                                obtain ⟨ad108, e108, hx108_0, hx108_1⟩ := at_T32 HR104_1.out x7_4 p108 q108
                                cases e108
                                replace hx108_0 := (HB.out.cell (World.block_lt_of_cell? w _ hx108_0)).trans hx108_0
                                replace hx108_1 := (HB.out.cell (World.block_lt_of_cell? w _ hx108_1)).trans hx108_1
                                replace p108 := eq_true p108
                                replace q108 := eq_true q108
                                go_wp2_with (first | (go_at_call 32; (with_reducible refine (scrivenerref07_MayPlace.calls ((rd_T32 ((rd_T25 l1 x5_2).f1) x7_4).f0) ((rd_T32 ((rd_T25 l1 x5_2).f1) x7_4).f1) false _ A22.out).mono ?_); rintro e w31 ⟨rfl, hb⟩; have n0_ := Aside0.mk (below_step (Hb HB.out) hb); clear HB; have HB := n0_; clear n0_; (try clear hb); (try clear hb2); (try clear hk); (try clear hi)))
                                repeat (go_quiet (first | (go_at_call 32; (with_reducible refine (scrivenerref07_MayPlace.calls ((rd_T32 ((rd_T25 l1 x5_2).f1) x7_4).f0) ((rd_T32 ((rd_T25 l1 x5_2).f1) x7_4).f1) false _ A22.out).mono ?_); rintro e w31 ⟨rfl, hb⟩; have n0_ := Aside0.mk (below_step (Hb HB.out) hb); clear HB; have HB := n0_; clear n0_; (try clear hb); (try clear hb2); (try clear hk); (try clear hi))); try go_wp2_with (first | (go_at_call 32; (with_reducible refine (scrivenerref07_MayPlace.calls ((rd_T32 ((rd_T25 l1 x5_2).f1) x7_4).f0) ((rd_T32 ((rd_T25 l1 x5_2).f1) x7_4).f1) false _ A22.out).mono ?_); rintro e w31 ⟨rfl, hb⟩; have n0_ := Aside0.mk (below_step (Hb HB.out) hb); clear HB; have HB := n0_; clear n0_; (try clear hb); (try clear hb2); (try clear hk); (try clear hi))))
                                go_ret
                                exact ⟨by first | rfl | (simp [errW_none, errW_some] <;> rfl) | (simp [*, errW_none, errW_some] <;> rfl), by repeat (first | (with_reducible first | exact HB.out | apply below_alloc | apply pw_below_drewN | apply below_drew1) | exact HB.out)⟩
                            · rw [if_neg c21] at H
                              exact absurd H (by simp)
                          · rw [if_neg c20] at H
                            have c20b0 : decide (x7_4 < (((rd_T25 l1 x5_2).f1).length : Int)) = false := decide_eq_false c20
                            clear c20
                            have H' := Aside0.mk H
                            clear H
                            go_wp2
                            repeat (go_quiet (fail); try go_wp2)
                            go_roundg k4
                            case measure => have := HJ2.out; have := HK2.out; have := HJ9.out; have := HK4.out; omega
                            case rel => exact ⟨(wrap64 (x5_2 + 1)), (by first | rfl | (simp; done) | (simp [*]; done)), H', ⟨by have := HJ2.out; have := HK2.out; have := HJ9.out; have := HK4.out; omega⟩, ⟨by repeat (first | (with_reducible first | exact HB.out | apply below_alloc | apply pw_below_drewN | apply below_drew1) | exact HB.out)⟩⟩
              · rw [if_neg c9] at H
                exact absurd H (by simp)
            · rw [if_neg c8] at H
              have c8b0 : decide (x5_2 < (l1.length : Int)) = false := decide_eq_false c8
              clear c8
              obtain rfl := Option.some.inj H
              go_wp2
              repeat (go_quiet (fail); try go_wp2)
              go_ret
              exact ⟨by first | rfl | (simp [errW_none, errW_some] <;> rfl) | (simp [*, errW_none, errW_some] <;> rfl), by repeat (first | (with_reducible first | exact HB.out | apply below_alloc | apply pw_below_drewN | apply below_drew1) | exact HB.out)⟩
end Go.Proofs.Ytipjnfljkknmgaa.Q
namespace Go.Proofs.Ytipjnfljkknmgaa.Q
open Go.RowKit Go.Proofs.YtipjnfljkknmgaaW.PrintWords Go.Proofs.YtipjnfljkknmgaaW.PrintLast Go.Proofs.YtipjnfljkknmgaaW.PrintMore
set_option linter.unusedVariables false
set_option linter.unusedSimpArgs false
theorem neS (a b : S32) : (!(a.f0 == b.f0) || (!(a.f1 == b.f1))) = !decide (a = b) := by
  rw [Bool.eq_iff_iff]
  simp only [Bool.or_eq_true, Bool.not_eq_true', beq_eq_false_iff_ne, decide_eq_false_iff_not]
  constructor
  · rintro (h | h) e <;> exact h (by rw [e])
  · intro h
    by_cases h0 : a.f0 = b.f0
    · exact .inr fun h1 => h (S_ext h0 h1)
    · exact .inl h0
theorem eqS' (a b : S32) : (a.f0 == b.f0 && (a.f1 == b.f1)) = decide (a = b) := by
  rw [Bool.eq_iff_iff]
  simp only [Bool.and_eq_true, beq_iff_eq, decide_eq_true_eq]
  exact ⟨fun h => S_ext h.1 h.2, fun h => by subst h; exact ⟨rfl, rfl⟩⟩
theorem mkS (a : S32) : (⟨a.f0, a.f1⟩ : S32) = a := by cases a; rfl
set_option linter.unusedSectionVars false
section
variable (set frm : List S32) (hs : set.length ≤ 4611686018427387903) (hf : frm.length ≤ 4611686018427387903)
include hs hf
end
theorem same_go (a b : List S32) (hl : a.length = b.length) (hm : a.length ≤ 4611686018427387903) (d : Nat) : ∀ i : Nat, i + d = a.length → Ev (fun k => scrivenerref14_Same.l0 k a b (i : Int)) (decide (a.drop i = b.drop i)) := by
  induction d with
  | zero =>
    intro i hi
    rw [List.drop_eq_nil_of_le (by omega), List.drop_eq_nil_of_le (by omega)]
    refine Ev.step (fun k => ?_) (Ev.now _)
    simp only [scrivenerref14_Same.l0]
    rw [if_neg (by omega)]
    simp
  | succ d ih =>
    intro i hi
    have h1 : i < a.length := by omega
    have h2 : i < b.length := by omega
    rw [List.drop_eq_getElem_cons h1, List.drop_eq_getElem_cons h2]
    by_cases e : a[i] = b[i]
    · refine Ev.step (f := fun k => scrivenerref14_Same.l0 k a b ((i + 1 : Nat) : Int)) (fun k => ?_) ?_
      · simp only [scrivenerref14_Same.l0]
        rw [if_pos (by omega), if_pos (by omega), if_pos (by omega), rdT_get a i h1, rdT_get b i h2, neS, if_neg (by simp [e]), w1 i (by omega)]
      · rw [show decide (a[i] :: a.drop (i + 1) = b[i] :: b.drop (i + 1)) = decide (a.drop (i + 1) = b.drop (i + 1)) from decide_eq_decide.2 ⟨fun h => (List.cons.inj h).2, fun h => by rw [e, h]⟩]
        exact ih (i + 1) (by omega)
    · rw [show decide (a[i] :: a.drop (i + 1) = b[i] :: b.drop (i + 1)) = false from decide_eq_false (fun h => e (List.cons.inj h).1)]
      refine Ev.step (fun k => ?_) (Ev.now _)
      simp only [scrivenerref14_Same.l0]
      rw [if_pos (by omega), if_pos (by omega), if_pos (by omega), rdT_get a i h1, rdT_get b i h2, neS, if_pos (by simp [e])]
theorem same_ev (a b : List S32) (hm : a.length ≤ 4611686018427387903) : Ev (fun k => scrivenerref14_Same.f k a b) (decide (a = b)) := by
  unfold scrivenerref14_Same.f
  by_cases hl : a.length = b.length
  · simp only [if_pos (show (a.length : Int) = (b.length : Int) from by omega)]
    simpa using same_go a b hl hm a.length 0 (by omega)
  · simp only [if_neg (show ¬ (a.length : Int) = (b.length : Int) from by omega)]
    rw [show decide (a = b) = false from by simp; rintro rfl; exact hl rfl]
    exact Ev.now _
end Go.Proofs.Ytipjnfljkknmgaa.Q
namespace Go.Proofs.Ytipjnfljkknmgaa.Q
open Go.RowKit Go.Proofs.YtipjnfljkknmgaaW.PrintWords Go.Proofs.YtipjnfljkknmgaaW.PrintLast Go.Proofs.YtipjnfljkknmgaaW.PrintMore
set_option linter.unusedVariables false
set_option linter.unusedSimpArgs false
theorem ev_ite {α : Type} {c : Prop} [Decidable c] {g h : Nat → Option α} {r : α} (h1 : c → Ev g r) (h2 : ¬ c → Ev h r) : Ev (fun k => if c then g k else h k) r := by
  by_cases hc : c
  · simp only [if_pos hc]; exact h1 hc
  · simp only [if_neg hc]; exact h2 hc
theorem ev_pos {α : Type} {c : Prop} [Decidable c] {g h : Nat → Option α} {r : α} (hc : c) (h1 : Ev g r) : Ev (fun k => if c then g k else h k) r := ev_ite (fun _ => h1) (fun h => absurd hc h)
theorem ev_neg {α : Type} {c : Prop} [Decidable c] {g h : Nat → Option α} {r : α} (hc : ¬ c) (h1 : Ev h r) : Ev (fun k => if c then g k else h k) r := ev_ite (fun h => absurd h hc) (fun _ => h1)
theorem longfrags_one (f : S25) (hl : f.f1.length ≤ 9223372036854775807) : Ev (fun k => scrivenerlaw07_LongFrags.f k [f]) (decide (f.f1.length > 30)) := by
  refine ⟨3, fun k hk => ?_⟩
  obtain ⟨k, rfl⟩ : ∃ m, k = m + 2 := ⟨k - 2, by omega⟩
  show (if (([f].length : Nat) : Int) > 30 then some true else scrivenerlaw07_LongFrags.l0 (k + 2) [f] 0) = _
  rw [if_neg (by simp)]
  simp only [scrivenerlaw07_LongFrags.l0]
  rw [if_pos (by simp), if_pos (by omega)]
  have : rd_T25 [f] 0 = f := rfl
  rw [this]
  by_cases h : f.f1.length > 30
  · rw [if_pos (by omega), decide_eq_true h]
  · rw [if_neg (by omega), decide_eq_false h, if_neg (by simp [wrap64])]
theorem long_go (rows : List (List S32)) (hm : rows.length ≤ 1000) (d : Nat) : ∀ i : Nat, i + d = rows.length → Ev (fun k => longP14.l0 k rows (i : Int)) ((rows.drop i).any fun l => decide (l.length > 60)) := by
  induction d with
  | zero =>
    intro i hi
    rw [List.drop_eq_nil_of_le (by omega)]
    refine Ev.step (fun k => ?_) (Ev.now _)
    simp only [longP14.l0]
    rw [if_neg (by omega)]
    rfl
  | succ d ih =>
    intro i hi
    have hlt : i < rows.length := by omega
    have hr : rd_L3 rows (i : Int) = rows[i] := by simp [rd_L3, List.getD_eq_getElem?_getD, List.getElem?_eq_getElem hlt]
    rw [List.drop_eq_getElem_cons hlt, List.any_cons]
    by_cases h : rows[i].length > 60
    · rw [decide_eq_true h, Bool.true_or]
      refine Ev.step (fun k => ?_) (Ev.now _)
      simp only [longP14.l0]
      rw [if_pos (by omega), if_pos (by omega), hr, if_pos (by omega)]
    · rw [decide_eq_false h, Bool.false_or]
      refine Ev.step (f := fun k => longP14.l0 k rows ((i + 1 : Nat) : Int)) (fun k => ?_) (ih (i + 1) (by omega))
      simp only [longP14.l0]
      rw [if_pos (by omega), if_pos (by omega), hr, if_neg (by omega), w1 i (by omega)]
/-- Are rows longer than is gone through? -/
def longB (f : S25) (w : Int) (rows : List (List S32)) : Bool := decide (f.f1.length > 30) || decide (w > 1000) || rows.any fun l => decide (l.length > 60)
theorem long_ev (f : S25) (w : Int) (rows : List (List S32)) (hl : f.f1.length ≤ 9223372036854775807) (hm : rows.length ≤ 1000) : Ev (fun k => scrivenerlaw14_long.f k [f] w rows) (longB f w rows) := by
  unfold scrivenerlaw14_long.f longP14.f longB
  refine Ev.bind (longfrags_one f hl) ?_
  have hj : ∀ b : Bool, Ev (fun k => longP14.j0 k rows b) (b || rows.any fun l => decide (l.length > 60)) := by
    intro b
    cases b with
    | true =>
      refine Ev.step (fun k => ?_) (Ev.now _)
      simp [longP14.j0]
    | false =>
      refine Ev.step (f := fun k => longP14.l0 k rows ((0 : Nat) : Int)) (fun k => ?_) (by simpa using long_go rows hm rows.length 0 (by omega))
      simp [longP14.j0]
  by_cases h : f.f1.length > 30
  · simp only [decide_eq_true h, if_true, Bool.true_or]
    simpa using hj true
  · simp only [decide_eq_false h, Bool.false_or, Bool.false_eq_true, if_false]
    exact hj _
end Go.Proofs.Ytipjnfljkknmgaa.Q
namespace Go.Proofs.Ytipjnfljkknmgaa.Q
open Go.RowKit Go.Proofs.YtipjnfljkknmgaaW.PrintWords Go.Proofs.YtipjnfljkknmgaaW.PrintLast Go.Proofs.YtipjnfljkknmgaaW.PrintMore
set_option linter.unusedVariables false
set_option linter.unusedSimpArgs false
set_option linter.unusedSectionVars false
def pickV (l0 : List S32) (a1 a2 : Int) (l3 : List Int) : List S32 × Int :=
  if a2 < 1 ∨ a2 > a1 ∨ a1 > 5 then ([], 1) else if ((pickGo a1 l3 l0 []).length : Int) < a2 then ([], 3) else (pickGo a1 l3 l0 [], 0)
theorem ppick_ev (l0 : List S32) (a1 a2 : Int) (l3 : List Int) : stripe_Pick.f l0 a1 a2 l3 = some (pickV l0 a1 a2 l3) := by
  unfold stripe_Pick.f pickV
  split
  · rfl
  · split <;> rfl
theorem rd_get (l : List Int) (i : Nat) (h : i < l.length) : rd l (i : Int) = l[i] := by simp [rd, List.getD_eq_getElem?_getD, List.getElem?_eq_getElem h]
section
variable (l0 : List S32) (a1 a2 : Int) (l3 : List Int) (h0 : l0.length ≤ 4611686018427387903) (h3 : l3.length ≤ 4611686018427387903)
include h0 h3
theorem rpick_l2 (i : Nat) (hi : i < l0.length) (l : List S32) (hl : l.length ≤ i) (hm : l.length ≤ 1000000) {r : List S32 × Int} (d : Nat) : ∀ (j : Nat) (good : Bool), j + d = l.length →
    Ev (fun k => scrivenerref14_Pick.l0 k l0 a1 a2 l3 (if good = true ∧ (l.drop j).any (fun y => y.f0 == (l0[i]).f0) = false then l ++ [l0[i]] else l) ((i + 1 : Nat) : Int)) r →
    Ev (fun k => scrivenerref14_Pick.l2 k l0 a1 a2 l3 l (i : Int) good (j : Int)) r := by
  induction d with
  | zero =>
    intro j good hj h
    rw [List.drop_eq_nil_of_le (by omega)] at h
    refine Ev.step (fun k => ?_) h
    simp only [scrivenerref14_Pick.l2]
    rw [if_neg (by omega)]
    cases good with
    | true =>
      rw [if_pos rfl, if_pos (by omega), if_pos (by omega), if_pos (by omega), rdT_get l0 i hi, mkS, w1 i (by omega)]
      simp
    | false =>
      rw [if_neg (by simp), w1 i (by omega)]
      simp
  | succ d ih =>
    intro j good hj h
    have hlt : j < l.length := by omega
    rw [List.drop_eq_getElem_cons hlt, List.any_cons] at h
    refine Ev.step (f := fun k => scrivenerref14_Pick.l2 k l0 a1 a2 l3 l (i : Int) (good && !((l[j]).f0 == (l0[i]).f0)) ((j + 1 : Nat) : Int)) (fun k => ?_) (ih (j + 1) _ (by omega) ?_)
    · simp only [scrivenerref14_Pick.l2]
      rw [if_pos (by omega), w1 j (by omega)]
      cases good with
      | true =>
        rw [if_pos rfl, if_pos (by omega), if_pos (by omega), if_pos (by omega), rdT_get l j hlt, rdT_get l0 i hi]
        rfl
      | false => rw [if_neg (by simp)]; rfl
    · have e : ((good && !((l[j]).f0 == (l0[i]).f0)) = true ∧ (l.drop (j + 1)).any (fun y => y.f0 == (l0[i]).f0) = false) = (good = true ∧ ((l[j]).f0 == (l0[i]).f0 || (l.drop (j + 1)).any fun y => y.f0 == (l0[i]).f0) = false) := by
        apply propext
        simp only [Bool.and_eq_true, Bool.not_eq_true', Bool.or_eq_false_iff]
        exact ⟨fun h => ⟨h.1.1, h.1.2, h.2⟩, fun h => ⟨⟨h.1, h.2.1⟩, h.2.2⟩⟩
      simp only [e]
      exact h
theorem rpick_l1 (i : Nat) (hi : i < l0.length) (l : List S32) {r : List S32 × Int} (d : Nat) : ∀ (j : Nat) (good : Bool), j + d = l3.length →
    Ev (fun k => scrivenerref14_Pick.l2 k l0 a1 a2 l3 l (i : Int) (good && !(l3.drop j).contains (l0[i]).f0) 0) r →
    Ev (fun k => scrivenerref14_Pick.l1 k l0 a1 a2 l3 l (i : Int) good (j : Int)) r := by
  induction d with
  | zero =>
    intro j good hj h
    rw [List.drop_eq_nil_of_le (by omega)] at h
    refine Ev.step (fun k => ?_) h
    simp only [scrivenerref14_Pick.l1]
    rw [if_neg (by omega)]
    simp
  | succ d ih =>
    intro j good hj h
    have hlt : j < l3.length := by omega
    rw [List.drop_eq_getElem_cons hlt] at h
    refine Ev.step (f := fun k => scrivenerref14_Pick.l1 k l0 a1 a2 l3 l (i : Int) (good && !(l3[j] == (l0[i]).f0)) ((j + 1 : Nat) : Int)) (fun k => ?_) (ih (j + 1) _ (by omega) ?_)
    · simp only [scrivenerref14_Pick.l1]
      rw [if_pos (by omega), w1 j (by omega)]
      cases good with
      | true =>
        rw [if_pos rfl, if_pos (by omega), if_pos (by omega), if_pos (by omega), rd_get l3 j hlt, rdT_get l0 i hi]
        rfl
      | false => rw [if_neg (by simp)]; rfl
    · have e : (good && !(l3[j] == (l0[i]).f0) && !(l3.drop (j + 1)).contains (l0[i]).f0) = (good && !(l3[j] :: l3.drop (j + 1)).contains (l0[i]).f0) := by
        rw [Bool.and_assoc]
        congr 1
        rw [Bool.eq_iff_iff]
        simp only [Bool.and_eq_true, Bool.not_eq_true', beq_eq_false_iff_ne, List.contains_eq_mem, List.mem_cons, decide_eq_false_iff_not, not_or, ne_eq]
        exact ⟨fun h => ⟨fun h' => h.1 h'.symm, h.2⟩, fun h => ⟨fun h' => h.1 h'.symm, h.2⟩⟩
      rw [e]
      exact h
theorem rpick_l0 (ha : a1 ≤ 5) {d : Nat} : ∀ (i : Nat) (l : List S32), i + d = l0.length → l.length ≤ i → (l.length : Int) ≤ 5 →
    Ev (fun k => scrivenerref14_Pick.l0 k l0 a1 a2 l3 l (i : Int)) (if ((pickGo a1 l3 (l0.drop i) l).length : Int) < a2 then ([], 3) else (pickGo a1 l3 (l0.drop i) l, 0)) := by
  induction d with
  | zero =>
    intro i l hi hl hl5
    rw [List.drop_eq_nil_of_le (by omega), pickGo]
    refine Ev.step (fun k => ?_) (Ev.now _)
    simp only [scrivenerref14_Pick.l0]
    rw [if_neg (by omega)]
    split <;> rfl
  | succ d ih =>
    intro i l hi hl hl5
    have hlt : i < l0.length := by omega
    rw [List.drop_eq_getElem_cons hlt, pickGo]
    refine Ev.step (f := fun k => scrivenerref14_Pick.l1 k l0 a1 a2 l3 l (i : Int) (decide ((l.length : Int) < a1)) ((0 : Nat) : Int)) (fun k => ?_) ?_
    · simp only [scrivenerref14_Pick.l0]
      rw [if_pos (by omega)]
      rfl
    · refine rpick_l1 l0 a1 a2 l3 h0 h3 i hlt l l3.length 0 _ (by omega) ?_
      refine rpick_l2 l0 a1 a2 l3 h0 h3 i hlt l hl (by omega) l.length 0 _ (by omega) ?_
      have e : ((decide ((l.length : Int) < a1) && !(l3.drop 0).contains (l0[i]).f0) = true ∧ (l.drop 0).any (fun y => y.f0 == (l0[i]).f0) = false) = ((l.length : Int) < a1 ∧ l.any (fun y => y.f0 == (l0[i]).f0) = false ∧ l3.contains (l0[i]).f0 = false) := by
        apply propext
        simp only [List.drop_zero, Bool.and_eq_true, decide_eq_true_eq, Bool.not_eq_true']
        exact ⟨fun h => ⟨h.1.1, h.2, h.1.2⟩, fun h => ⟨⟨h.1, h.2.2⟩, h.2.1⟩⟩
      simp only [e]
      refine ih (i + 1) _ (by omega) ?_ ?_
      · split
        · rw [List.length_append, List.length_singleton]; omega
        · omega
      · split
        · rename_i h
          rw [List.length_append, List.length_singleton]; omega
        · omega
theorem rpick_ev : Ev (fun k => scrivenerref14_Pick.f k l0 a1 a2 l3) (pickV l0 a1 a2 l3) := by
  unfold scrivenerref14_Pick.f pickV
  by_cases h1 : a2 < 1
  · rw [if_pos (.inl h1)]
    refine ev_pos h1 (Ev.step (fun k => ?_) (Ev.now _))
    simp [scrivenerref14_Pick.j0]
  · by_cases h2 : a1 < a2
    · rw [if_pos (.inr (.inl (by omega)))]
      refine ev_neg h1 (ev_pos h2 (Ev.step (fun k => ?_) (Ev.now _)))
      simp [scrivenerref14_Pick.j0]
    · refine ev_neg h1 (ev_neg h2 ?_)
      by_cases h5 : a1 > 5
      · rw [if_pos (.inr (.inr h5)), decide_eq_true h5]
        refine Ev.step (fun k => ?_) (Ev.now _)
        simp [scrivenerref14_Pick.j0]
      · rw [if_neg (by omega), decide_eq_false h5]
        have := rpick_l0 l0 a1 a2 l3 h0 h3 (by omega) (d := l0.length) 0 [] (by omega) (by simp) (by simp)
        rw [List.drop_zero] at this
        refine Ev.step (fun k => ?_) this
        simp [scrivenerref14_Pick.j0]
end
/-- The first place of one, or -1. -/
def idxGo (x : S32) : List S32 → Nat → Int
  | [], _ => -1
  | y :: r, i => if x = y then (i : Int) else idxGo x r (i + 1)
theorem idxGo_range (x : S32) : ∀ (r : List S32) (i : Nat), idxGo x r i = -1 ∨ ((i : Int) ≤ idxGo x r i ∧ idxGo x r i < (i + r.length : Nat))
  | [], _ => .inl rfl
  | y :: r, i => by
    rw [idxGo]
    split
    · right; simp; omega
    · rcases idxGo_range x r (i + 1) with h | h
      · exact .inl h
      · right; rw [List.length_cons]; omega
def clashGo (at_ node : Int) : List S32 → Nat → Bool
  | [], _ => false
  | y :: r, i => (decide ((i : Int) ≠ at_) && (y.f0 == node)) || clashGo at_ node r (i + 1)
def swapV (f0 : Int) (b : List S32) (old fresh : S32) : Int × List S32 × Bool :=
  if clashGo (idxGo old b 0) fresh.f0 b 0 = true then (0, [], false) else if idxGo old b 0 < 0 then (0, [], false) else (f0, b.set (idxGo old b 0).toNat fresh, true)
section
variable (f0 : Int) (b : List S32) (hb : b.length ≤ 1000000)
include hb
theorem index_go (x : S32) (d : Nat) : ∀ i : Nat, i + d = b.length → Ev (fun k => api_Place_43.l0 k b (b.length : Int) (i : Int) x.f0 x.f1) (idxGo x (b.drop i) i) := by
  induction d with
  | zero =>
    intro i hi
    rw [List.drop_eq_nil_of_le (by omega), idxGo]
    refine Ev.step (fun k => ?_) (Ev.now _)
    simp only [api_Place_43.l0]
    rw [if_neg (by omega)]
  | succ d ih =>
    intro i hi
    have hlt : i < b.length := by omega
    rw [List.drop_eq_getElem_cons hlt, idxGo]
    by_cases e : x = b[i]
    · rw [if_pos e]
      refine Ev.step (fun k => ?_) (Ev.now _)
      simp only [api_Place_43.l0]
      rw [if_pos (by omega), if_pos (by omega), if_pos (by omega), rdT_get b i hlt, eqS, mkS, if_pos (by simpa using e)]
    · rw [if_neg e]
      refine Ev.step (f := fun k => api_Place_43.l0 k b (b.length : Int) ((i + 1 : Nat) : Int) x.f0 x.f1) (fun k => ?_) (ih (i + 1) (by omega))
      simp only [api_Place_43.l0]
      rw [if_pos (by omega), if_pos (by omega), if_pos (by omega), rdT_get b i hlt, eqS, mkS, if_neg (by simpa using e), w1 i (by omega)]
theorem pswap_go (at_ : Int) (hat : at_ = -1 ∨ (0 ≤ at_ ∧ at_ < b.length)) (fresh : S32) (d : Nat) : ∀ i : Nat, i + d = b.length →
    Ev (fun k => stripe_Swap.l0 k at_ b (b.length : Int) (i : Int) f0 b fresh.f0 fresh.f1) (if clashGo at_ fresh.f0 (b.drop i) i = true then (0, [], false) else if at_ < 0 then (0, [], false) else (f0, b.set at_.toNat fresh, true)) := by
  induction d with
  | zero =>
    intro i hi
    rw [List.drop_eq_nil_of_le (by omega), clashGo]
    refine Ev.step (fun k => ?_) (Ev.now _)
    simp only [stripe_Swap.l0, Bool.false_eq_true, if_false]
    rw [if_neg (by omega)]
    by_cases h : at_ < 0
    · rw [if_pos h, if_pos h]
    · rw [if_neg h, if_neg h]
      simp only [api_Place_44.f]
      rw [if_pos (by omega), Option.bind_some, if_pos (by omega), if_pos (by omega)]
  | succ d ih =>
    intro i hi
    have hlt : i < b.length := by omega
    rw [List.drop_eq_getElem_cons hlt, clashGo]
    by_cases e : (i : Int) = at_
    · refine Ev.step (f := fun k => stripe_Swap.l0 k at_ b (b.length : Int) ((i + 1 : Nat) : Int) f0 b fresh.f0 fresh.f1) (fun k => ?_) ?_
      · simp only [stripe_Swap.l0]
        rw [if_pos (by omega), if_pos (by omega), if_pos (by omega), if_pos e, w1 i (by omega)]
      · have := ih (i + 1) (by omega)
        simpa [e] using this
    · by_cases e2 : (b[i]).f0 = fresh.f0
      · refine Ev.step (fun k => ?_) (Ev.now _)
        simp only [stripe_Swap.l0]
        rw [if_pos (by omega), if_pos (by omega), if_pos (by omega), if_neg e, rdT_get b i hlt, if_pos e2, if_pos (by simp [e, e2])]
      · refine Ev.step (f := fun k => stripe_Swap.l0 k at_ b (b.length : Int) ((i + 1 : Nat) : Int) f0 b fresh.f0 fresh.f1) (fun k => ?_) ?_
        · simp only [stripe_Swap.l0]
          rw [if_pos (by omega), if_pos (by omega), if_pos (by omega), if_neg e, rdT_get b i hlt, if_neg e2, w1 i (by omega)]
        · have := ih (i + 1) (by omega)
          simpa [e2] using this
theorem pswap_ev (old fresh : S32) : Ev (fun k => stripe_Swap.f k f0 b old.f0 old.f1 fresh.f0 fresh.f1) (swapV f0 b old fresh) := by
  unfold stripe_Swap.f swapV
  have h1 := index_go b hb old b.length 0 (by omega)
  rw [List.drop_zero] at h1
  have h2 := pswap_go f0 b hb (idxGo old b 0) (by
    rcases idxGo_range old b 0 with h | h
    · exact .inl h
    · right; omega) fresh b.length 0 (by omega)
  rw [List.drop_zero] at h2
  exact Ev.bind (Ev.congr (fun k => by rfl) h1) h2
theorem rswap_l1 (at_ : Int) (hat : 0 ≤ at_ ∧ at_ < b.length) (fresh : S32) (d : Nat) : ∀ i : Nat, i + d = b.length →
    Ev (fun k => scrivenerref14_Swap.l1 k at_ (i : Int) fresh.f0 fresh.f1 f0 b) (if clashGo at_ fresh.f0 (b.drop i) i = true then (0, [], false) else (f0, b.set at_.toNat fresh, true)) := by
  induction d with
  | zero =>
    intro i hi
    rw [List.drop_eq_nil_of_le (by omega), clashGo]
    refine Ev.step (fun k => ?_) (Ev.now _)
    simp only [scrivenerref14_Swap.l1, Bool.false_eq_true, if_false]
    rw [if_neg (by omega), if_pos (by omega), if_pos (by omega)]
  | succ d ih =>
    intro i hi
    have hlt : i < b.length := by omega
    rw [List.drop_eq_getElem_cons hlt, clashGo]
    by_cases e : (i : Int) = at_
    · refine Ev.step (f := fun k => scrivenerref14_Swap.l1 k at_ ((i + 1 : Nat) : Int) fresh.f0 fresh.f1 f0 b) (fun k => ?_) ?_
      · simp only [scrivenerref14_Swap.l1]
        rw [if_pos (by omega), if_pos e, w1 i (by omega)]
      · have := ih (i + 1) (by omega)
        simpa [e] using this
    · by_cases e2 : (b[i]).f0 = fresh.f0
      · refine Ev.step (fun k => ?_) (Ev.now _)
        simp only [scrivenerref14_Swap.l1]
        rw [if_pos (by omega), if_neg e, if_pos (by omega), rdT_get b i hlt, if_pos e2, if_pos (by simp [e, e2])]
      · refine Ev.step (f := fun k => scrivenerref14_Swap.l1 k at_ ((i + 1 : Nat) : Int) fresh.f0 fresh.f1 f0 b) (fun k => ?_) ?_
        · simp only [scrivenerref14_Swap.l1]
          rw [if_pos (by omega), if_neg e, if_pos (by omega), rdT_get b i hlt, if_neg e2, w1 i (by omega)]
        · have := ih (i + 1) (by omega)
          simpa [e2] using this
theorem rswap_l0 (old fresh : S32) : ∀ j : Nat, j ≤ b.length → Ev (fun k => scrivenerref14_Swap.l0 k (idxGo old (b.drop j) j) ((j : Int) - 1) f0 b old.f0 old.f1 fresh.f0 fresh.f1) (swapV f0 b old fresh) := by
  intro j
  induction j with
  | zero =>
    intro _
    rw [List.drop_zero]
    unfold swapV
    by_cases h : idxGo old b 0 < 0
    · have e : (if clashGo (idxGo old b 0) fresh.f0 b 0 = true then ((0 : Int), ([] : List S32), false) else if idxGo old b 0 < 0 then (0, [], false) else (f0, b.set (idxGo old b 0).toNat fresh, true)) = (0, [], false) := by
        rw [if_pos h]; split <;> rfl
      rw [e]
      refine Ev.step (fun k => ?_) (Ev.now _)
      simp only [scrivenerref14_Swap.l0]
      rw [if_neg (by omega), if_pos h]
    · have hr : 0 ≤ idxGo old b 0 ∧ idxGo old b 0 < b.length := by
        rcases idxGo_range old b 0 with h' | h'
        · omega
        · omega
      have := rswap_l1 f0 b hb (idxGo old b 0) hr fresh b.length 0 (by omega)
      rw [List.drop_zero] at this
      simp only [if_neg h]
      refine Ev.step (fun k => ?_) this
      simp only [scrivenerref14_Swap.l0]
      rw [if_neg (by omega), if_neg h, Option.bind_some, if_pos (by simp; omega), List.nil_append]
      rfl
  | succ j ih =>
    intro hj
    have hlt : j < b.length := by omega
    have := ih (by omega)
    rw [List.drop_eq_getElem_cons hlt, idxGo] at this
    refine Ev.step (fun k => ?_) this
    simp only [scrivenerref14_Swap.l0]
    rw [show (((j + 1 : Nat) : Int) - 1) = (j : Int) from by omega, if_pos (by omega), if_pos (by omega), if_pos (by omega), rdT_get b j hlt, eqS', show wrap64 ((j : Int) - 1) = (j : Int) - 1 from by unfold wrap64; omega]
    by_cases e : old = b[j]
    · rw [if_pos e, if_pos (by simpa using e.symm)]
    · rw [if_neg e, if_neg (by simpa using fun h => e h.symm)]
theorem rswap_ev (old fresh : S32) : Ev (fun k => scrivenerref14_Swap.f k f0 b old.f0 old.f1 fresh.f0 fresh.f1) (swapV f0 b old fresh) := by
  have h := rswap_l0 f0 b hb old fresh b.length (Nat.le_refl _)
  rw [List.drop_eq_nil_of_le (Nat.le_refl _), idxGo] at h
  refine Ev.congr (fun k => ?_) h
  unfold scrivenerref14_Swap.f
  rw [show wrap64 ((b.length : Int) - 1) = (b.length : Int) - 1 from by unfold wrap64; omega]
end
theorem sf_l1 (x y : S25) (hl : x.f1.length = y.f1.length) (hm : x.f1.length ≤ 4611686018427387903) (d : Nat) : ∀ i : Nat, i + d = x.f1.length → Ev (fun k => scrivenerref07_SameFrags.l1 k [x] [y] 0 (i : Int)) (decide (x.f1.drop i = y.f1.drop i)) := by
  have hx : rd_T25 [x] 0 = x := rfl
  have hy : rd_T25 [y] 0 = y := rfl
  induction d with
  | zero =>
    intro i hi
    rw [List.drop_eq_nil_of_le (by omega), List.drop_eq_nil_of_le (by omega)]
    refine Ev.step (f := fun k => scrivenerref07_SameFrags.l0 k [x] [y] 1) (fun k => ?_) (Ev.step (fun k => ?_) (Ev.now _))
    · simp only [scrivenerref07_SameFrags.l1, hx]
      rw [if_pos (by omega), if_pos (by simp), if_neg (by omega), show wrap64 (0 + 1) = 1 from by simp [wrap64]]
    · simp only [scrivenerref07_SameFrags.l0]
      rw [if_neg (by simp)]
      simp
  | succ d ih =>
    intro i hi
    have h1 : i < x.f1.length := by omega
    have h2 : i < y.f1.length := by omega
    rw [List.drop_eq_getElem_cons h1, List.drop_eq_getElem_cons h2]
    by_cases e : x.f1[i] = y.f1[i]
    · rw [show decide (x.f1[i] :: x.f1.drop (i + 1) = y.f1[i] :: y.f1.drop (i + 1)) = decide (x.f1.drop (i + 1) = y.f1.drop (i + 1)) from decide_eq_decide.2 ⟨fun h => (List.cons.inj h).2, fun h => by rw [e, h]⟩]
      refine Ev.step (f := fun k => scrivenerref07_SameFrags.l1 k [x] [y] 0 ((i + 1 : Nat) : Int)) (fun k => ?_) (ih (i + 1) (by omega))
      simp only [scrivenerref07_SameFrags.l1, hx, hy]
      rw [if_pos (by omega), if_pos (by simp), if_pos (by omega), if_pos (by omega), if_pos (by simp), if_pos (by omega), rdT_get _ i h1, rdT_get _ i h2, neS, if_neg (by simp [e]), w1 i (by omega)]
    · rw [show decide (x.f1[i] :: x.f1.drop (i + 1) = y.f1[i] :: y.f1.drop (i + 1)) = false from decide_eq_false (fun h => e (List.cons.inj h).1)]
      refine Ev.step (fun k => ?_) (Ev.now _)
      simp only [scrivenerref07_SameFrags.l1, hx, hy]
      rw [if_pos (by omega), if_pos (by simp), if_pos (by omega), if_pos (by omega), if_pos (by simp), if_pos (by omega), rdT_get _ i h1, rdT_get _ i h2, neS, if_pos (by simp [e])]
theorem sameF_ev (x y : S25) (hm : x.f1.length ≤ 4611686018427387903) : Ev (fun k => scrivenerref07_SameFrags.f k [x] [y]) (decide (x.f0 = y.f0 ∧ x.f1 = y.f1)) := by
  have hx : rd_T25 [x] 0 = x := rfl
  have hy : rd_T25 [y] 0 = y := rfl
  unfold scrivenerref07_SameFrags.f
  refine ev_pos (by simp) ?_
  by_cases h0 : x.f0 = y.f0
  · by_cases hl : x.f1.length = y.f1.length
    · have e : decide (x.f0 = y.f0 ∧ x.f1 = y.f1) = decide (x.f1.drop 0 = y.f1.drop 0) := decide_eq_decide.2 ⟨fun h => by rw [h.2], fun h => ⟨h0, h⟩⟩
      rw [e]
      refine Ev.step (f := fun k => scrivenerref07_SameFrags.j1 k [x] [y] 0 false) (fun k => ?_) (Ev.step (f := fun k => scrivenerref07_SameFrags.l1 k [x] [y] 0 ((0 : Nat) : Int)) (fun k => ?_) (sf_l1 x y hl hm x.f1.length 0 (by omega)))
      · simp only [scrivenerref07_SameFrags.l0, hx, hy]
        rw [if_pos (by simp), if_pos (by omega), if_pos (by simp), if_pos h0, hl]
        simp
      · simp [scrivenerref07_SameFrags.j1]
    · rw [show decide (x.f0 = y.f0 ∧ x.f1 = y.f1) = false from decide_eq_false (fun h => hl (by rw [h.2]))]
      refine Ev.step (f := fun k => scrivenerref07_SameFrags.j1 k [x] [y] 0 true) (fun k => ?_) (Ev.step (fun k => ?_) (Ev.now _))
      · simp only [scrivenerref07_SameFrags.l0, hx, hy]
        rw [if_pos (by simp), if_pos (by omega), if_pos (by simp), if_pos h0, show ((x.f1.length : Int) != (y.f1.length : Int)) = true from by simp only [bne_iff_ne, ne_eq]; omega]
      · simp [scrivenerref07_SameFrags.j1]
  · rw [show decide (x.f0 = y.f0 ∧ x.f1 = y.f1) = false from decide_eq_false (fun h => h0 h.1)]
    refine Ev.step (f := fun k => scrivenerref07_SameFrags.j1 k [x] [y] 0 true) (fun k => ?_) (Ev.step (fun k => ?_) (Ev.now _))
    · simp only [scrivenerref07_SameFrags.l0, hx, hy]
      rw [if_pos (by simp), if_pos (by omega), if_pos (by simp), if_neg h0]
    · simp [scrivenerref07_SameFrags.j1]
theorem copyF_ev (x : S25) (hm : x.f1.length ≤ 1000000) : Ev (fun k => scrivenerref07_CopyFrags.f k [x]) [x] := by
  have hx : rd_T25 [x] 0 = x := rfl
  unfold scrivenerref07_CopyFrags.f
  refine Ev.step (f := fun k => scrivenerref07_CopyFrags.l0 k [x] [x] 1) (fun k => ?_) (Ev.step (fun k => ?_) (Ev.now _))
  · simp only [scrivenerref07_CopyFrags.l0, hx]
    rw [if_pos (by simp), if_pos (by omega), Option.bind_some, if_pos (by simp; omega), if_pos (by simp), show wrap64 (0 + 1) = 1 from by simp [wrap64]]
    rfl
  · simp only [scrivenerref07_CopyFrags.l0]
    rw [if_neg (by simp)]
theorem pickGo_len (e : Int) (no : List Int) : ∀ (r l : List S32), ((pickGo e no r l).length : Int) ≤ max e l.length
  | [], l => by rw [pickGo]; omega
  | x :: r, l => by
    rw [pickGo]
    refine Int.le_trans (pickGo_len e no r _) ?_
    split
    · rename_i h
      rw [List.length_append, List.length_singleton]
      omega
    · omega
theorem pickV_len (l0 : List S32) (a1 a2 : Int) (l3 : List Int) : (pickV l0 a1 a2 l3).1.length ≤ 4611686018427387903 := by
  unfold pickV
  split
  · simp
  · split
    · simp
    · have := pickGo_len a1 l3 l0 []
      simp only [List.length_nil] at this
      dsimp only
      omega
theorem swapV_len (f0 : Int) (b : List S32) (old fresh : S32) : (swapV f0 b old fresh).2.1.length ≤ b.length := by
  unfold swapV
  split
  · simp
  · split
    · simp
    · simp
end Go.Proofs.Ytipjnfljkknmgaa.Q
namespace Go.Proofs.Ytipjnfljkknmgaa.Q
open Go.RowKit Go.Proofs.YtipjnfljkknmgaaW.PrintWords Go.Proofs.YtipjnfljkknmgaaW.PrintLast Go.Proofs.YtipjnfljkknmgaaW.PrintMore
set_option linter.unusedVariables false
set_option linter.unusedSimpArgs false
/-- The plain law. -/
theorem picks_ev (l0 : List S32) (a1 a2 : Int) (l3 : List Int) (f0 : Int) (b : List S32) (o0 o1 n0 n1 : Int) (hb : b.length ≤ 9223372036854775807) (h3 : l3.length ≤ 9223372036854775807) : Ev (fun k => scrivenerlaw14_StripePicks.f k l0 a1 a2 l3 f0 b o0 o1 n0 n1) true := by
  unfold scrivenerlaw14_StripePicks.f
  have haw : Ev (fun k => scrivenerlaw14_StripePicks.j0 k l0 a1 a2 l3 true f0 b o0 o1 n0 n1) true := by
    refine Ev.step (fun k => ?_) (Ev.now _)
    simp [scrivenerlaw14_StripePicks.j0, scrivenerlaw14_awake.f]
  refine Ev.bind (long_ev ⟨f0, b⟩ 0 [l0] hb (by simp)) ?_
  refine ev_ite (fun _ => haw) (fun hlong => ?_)
  simp only [longB, List.any_cons, List.any_nil, Bool.or_false, Bool.or_eq_true, decide_eq_true_eq, not_or] at hlong
  obtain ⟨⟨l1, l2⟩, l4⟩ := hlong
  by_cases h5 : (l3.length : Int) > 60
  · rw [decide_eq_true h5]; exact haw
  · rw [decide_eq_false h5]
    refine Ev.step (f := fun k => (scrivenerref14_Pick.f k l0 a1 a2 l3).bind fun bt356 => (scrivenerref07_CopyFrags.f k [(⟨f0, b⟩ : S25)]).bind fun t363 => (stripe_Swap.f k f0 b o0 o1 n0 n1).bind fun bt366 => (scrivenerref14_Swap.f k f0 b o0 o1 n0 n1).bind fun bt372 => if (pickV l0 a1 a2 l3).2 = bt356.2 then (scrivenerref14_Same.f k (pickV l0 a1 a2 l3).1 bt356.1).bind fun t378 => if t378 = true then (if (bt366.2.2 == bt372.2.2) = true then (scrivenerref07_SameFrags.f k [(⟨bt366.1, bt366.2.1⟩ : S25)] [(⟨bt372.1, bt372.2.1⟩ : S25)]).bind fun t385 => if t385 = true then (scrivenerref07_SameFrags.f k t363 [(⟨f0, b⟩ : S25)]).bind fun t389 => if t389 = true then some true else some false else some false else some false) else some false else some false) (fun k => ?_) ?_
    · simp only [scrivenerlaw14_StripePicks.j0, Bool.false_eq_true, if_false, ppick_ev, Option.bind_some, scrivenerlaw14_awake.f]
    · refine Ev.bind (rpick_ev l0 a1 a2 l3 (by omega) (by omega)) ?_
      refine Ev.bind (copyF_ev ⟨f0, b⟩ (by dsimp only; omega)) ?_
      refine Ev.bind (pswap_ev f0 b (by omega) ⟨o0, o1⟩ ⟨n0, n1⟩) ?_
      refine Ev.bind (rswap_ev f0 b (by omega) ⟨o0, o1⟩ ⟨n0, n1⟩) ?_
      simp only [if_true, beq_self_eq_true]
      refine Ev.bind (same_ev _ _ (pickV_len l0 a1 a2 l3)) ?_
      simp only [decide_true, if_true]
      refine Ev.bind (sameF_ev _ _ (by dsimp only; have := swapV_len f0 b ⟨o0, o1⟩ ⟨n0, n1⟩; omega)) ?_
      simp only [and_self, decide_true, if_true]
      refine Ev.bind (sameF_ev _ _ (by dsimp only; omega)) ?_
      simp only [and_self, decide_true, if_true]
      exact Ev.now _
end Go.Proofs.Ytipjnfljkknmgaa.Q
