/- Part 4 of the proof of the row StripePicks: written for this claim by the session and by a program of its own. -/
import Derived.Test.YtipjnfljkknmgaaCStripePicksp2
import Derived.WalkSpells
namespace Go.Proofs.Ytipjnfljkknmgaa.Q
open Go.RowKit Go.Proofs.YtipjnfljkknmgaaW.PrintWords Go.Proofs.YtipjnfljkknmgaaW.PrintLast Go.Proofs.YtipjnfljkknmgaaW.PrintMore
attribute [local go_sem] max2_int min2_int max_two min_two max_three min_three max_four min_four   -- for this text's walks alone
set_option linter.unusedVariables false
set_option linter.unusedSimpArgs false
attribute [local go_sem high] eqA32
mutual
def scrivenerref07_SameFrags.l0 : Nat → List (S25) → List (S25) → Int → Option (Bool)
  | 0, _, _, _ => none
  | k + 1, x0, x1, x5 => if x5 < (x0.length : Int) then (if 0 ≤ x5 then (if x5 < (x1.length : Int) then (if ((rd_T25 x0 x5).f0) = ((rd_T25 x1 x5).f0) then (scrivenerref07_SameFrags.j1 k x0 x1 x5 ((((rd_T25 x0 x5).f1).length : Int) != (((rd_T25 x1 x5).f1).length : Int))) else (scrivenerref07_SameFrags.j1 k x0 x1 x5 true)) else (none)) else (none)) else (some true)
def scrivenerref07_SameFrags.j1 : Nat → List (S25) → List (S25) → Int → Bool → Option (Bool)
  | 0, _, _, _, _ => none
  | k + 1, x0, x1, x5, x43 => if x43 = true then (some false) else (scrivenerref07_SameFrags.l1 k x0 x1 x5 0)
def scrivenerref07_SameFrags.l1 : Nat → List (S25) → List (S25) → Int → Int → Option (Bool)
  | 0, _, _, _, _ => none
  | k + 1, x0, x1, x5, x6 => if 0 ≤ x5 then (if x5 < (x0.length : Int) then (if x6 < (((rd_T25 x0 x5).f1).length : Int) then (if 0 ≤ x6 then (if x5 < (x1.length : Int) then (if x6 < (((rd_T25 x1 x5).f1).length : Int) then (if (!(((rd_T32 ((rd_T25 x0 x5).f1) x6).f0) == ((rd_T32 ((rd_T25 x1 x5).f1) x6).f0)) || (!(((rd_T32 ((rd_T25 x0 x5).f1) x6).f1) == ((rd_T32 ((rd_T25 x1 x5).f1) x6).f1)))) = true then (some false) else (scrivenerref07_SameFrags.l1 k x0 x1 x5 (wrap64 (x6 + 1)))) else (none)) else (none)) else (none)) else (scrivenerref07_SameFrags.l0 k x0 x1 (wrap64 (x5 + 1)))) else (none)) else (none)
end
def scrivenerref07_SameFrags.f (k : Nat) (l0 : List (S25)) (l1 : List (S25)) : Option (Bool) := if (l0.length : Int) = (l1.length : Int) then (scrivenerref07_SameFrags.l0 k l0 l1 0) else (some false)
set_option maxHeartbeats 8000000 in
set_option maxRecDepth 100000 in
theorem scrivenerref07_SameFrags.calls (k : Nat) (A0 : Option Addr) (c0 : Nat) (l0 : List (S25)) (A1 : Option Addr) (c1 : Nat) (l1 : List (S25)) (r : Bool) (w : World) (hr0 : Kd.C k25 w A0 l0.length l0) (hc0 : l0.length ≤ c0) (hr1 : Kd.C k25 w A1 l1.length l1) (hc1 : l1.length ≤ c1) (h : scrivenerref07_SameFrags.f k l0 l1 = some r) :
    Calls Try.prog 27 #[.slice A0 l0.length c0, .slice A1 l1.length c1] w fun e w' => e = .returned (.bool r) ∧ Drawn0 w w' := by
  have hu32 := Try.underlying32
  have HR0 := Aside0.mk hr0
  have HC0 := Aside0.mk hc0
  clear hr0 hc0
  have HR1 := Aside0.mk hr1
  have HC1 := Aside0.mk hc1
  clear hr1 hc1
  have H : (if (l0.length : Int) = (l1.length : Int) then (scrivenerref07_SameFrags.l0 k l0 l1 0) else (some false)) = some r := h
  clear h
  by_cases c3 : (l0.length : Int) = (l1.length : Int)
  · rw [if_pos c3] at H
    have c3b0 : ((l0.length : Int) == (l1.length : Int)) = true := beq_iff_eq.mpr c3
    have c3b1 : ((l0.length : Int) != (l1.length : Int)) = false := bne_eq_false_iff_eq.mpr c3
    have c3b2 : (l0.length == l1.length) = true := by first | simpa using c3 | (simp at c3 ⊢; omega)
    clear c3
    have H' := Aside0.mk H
    clear H
    go_enter Try.func27, Try.ntmps27
    go_wp2
    repeat (go_quiet (fail); try go_wp2)
    go_loopg [5] k (fun kq v5 w' => ∃ (x5_1 : Int), v5 = .int .i64 x5_1 ∧ Aside0 (scrivenerref07_SameFrags.l0 kq l0 l1 x5_1 = some r) ∧ Aside0 (kq ≤ k) ∧ Drawn0 w w')
    case atStart => exact ⟨(0), (by first | rfl | (simp; done) | (simp [*]; done)), H', ⟨Nat.le_refl _⟩, by repeat (first | exact Drawn0.refl _ | apply Drawn0.step)⟩
    case round =>
      clear H'
      try clear c1
      try clear c2
      try clear p2
      try clear c3
      try clear c3b0
      try clear c3b1
      try clear c3b2
      obtain ⟨x5_1, rfl, HA, HK1, ⟨m1, rfl⟩⟩ := hrel
      cases gk with
      | zero => exact absurd HA.out (by simp [scrivenerref07_SameFrags.l0])
      | succ k1 =>
        have H := HA.out
        clear HA
        simp only [scrivenerref07_SameFrags.l0] at H
        by_cases c4 : x5_1 < (l0.length : Int)
        · rw [if_pos c4] at H
          have c4b0 : decide (x5_1 < (l0.length : Int)) = true := decide_eq_true c4
          clear c4
          have HC5 := Aside0.mk H
          clear H
          go_upto_region 6 with (fail)
          repeat (go_quiet (fail); go_upto_region 6 with (fail))
          go_cut [43] (fun v43 wc => ∃ (kq : Nat) (x43_4 : Bool), v43 = .bool x43_4 ∧ Aside0 (scrivenerref07_SameFrags.j1 kq l0 l1 x5_1 x43_4 = some r) ∧ Aside0 (kq ≤ k1) ∧ Drawn0 w wc)
          case first =>
            have H := HC5.out
            clear HC5
            by_cases c6 : 0 ≤ x5_1
            · rw [if_pos c6] at H
              have c6b0 : decide (0 ≤ x5_1) = true := decide_eq_true c6
              clear c6
              (first | rw [c6b0] | (simp only [i64_w, i32_w]; rw [c6b0]) | skip)
              by_cases c7 : x5_1 < (l1.length : Int)
              · rw [if_pos c7] at H
                have c7b0 : decide (x5_1 < (l1.length : Int)) = true := decide_eq_true c7
                clear c7
                by_cases c8 : ((rd_T25 l0 x5_1).f0) = ((rd_T25 l1 x5_1).f0)
                · rw [if_pos c8] at H
                  have c8b0 : (((rd_T25 l0 x5_1).f0) == ((rd_T25 l1 x5_1).f0)) = true := beq_iff_eq.mpr c8
                  have c8b1 : (((rd_T25 l0 x5_1).f0) != ((rd_T25 l1 x5_1).f0)) = false := bne_eq_false_iff_eq.mpr c8
                  clear c8
                  have H' := Aside0.mk H
                  clear H
                  have p332 : 0 ≤ (x5_1 : Int) := of_decide_eq_true (by first | (with_reducible assumption) | assumption)
                  have q332 : x5_1 < (l0.length : Int) := of_decide_eq_true (by first | (with_reducible assumption) | assumption)
                  obtain ⟨ad332, A332_1, c332_1, e332, hx332_0, hx332_1, hl332_1, hi332_1⟩ := at_T25 HR0.out x5_1 p332 q332
                  cases e332
                  have HR332_1 := Aside0.mk hi332_1
                  have HC332_1 := Aside0.mk hl332_1
                  clear hi332_1 hl332_1
                  replace p332 := eq_true p332
                  replace q332 := eq_true q332
                  have p333 : 0 ≤ (x5_1 : Int) := of_decide_eq_true (by first | (with_reducible assumption) | assumption)
                  have q333 : x5_1 < (l1.length : Int) := of_decide_eq_true (by first | (with_reducible assumption) | assumption)
                  obtain ⟨ad333, A333_1, c333_1, e333, hx333_0, hx333_1, hl333_1, hi333_1⟩ := at_T25 HR1.out x5_1 p333 q333
                  cases e333
                  have HR333_1 := Aside0.mk hi333_1
                  have HC333_1 := Aside0.mk hl333_1
                  clear hi333_1 hl333_1
                  replace p333 := eq_true p333
                  replace q333 := eq_true q333
                  have p334 : 0 ≤ (x5_1 : Int) := of_decide_eq_true (by first | (with_reducible assumption) | assumption)
                  have q334 : x5_1 < (l0.length : Int) := of_decide_eq_true (by first | (with_reducible assumption) | assumption)
                  obtain ⟨ad334, A334_1, c334_1, e334, hx334_0, hx334_1, hl334_1, hi334_1⟩ := at_T25 HR0.out x5_1 p334 q334
                  obtain rfl : ad332 = ad334 := (by injection e334)
                  have HR334_1 := Aside0.mk hi334_1
                  have HC334_1 := Aside0.mk hl334_1
                  clear hi334_1 hl334_1
                  replace p334 := eq_true p334
                  replace q334 := eq_true q334
                  have ea_ := Option.some.inj (hx332_1.symm.trans hx334_1)
                  injection ea_ with ea_ en_ ec_
                  subst ea_
                  subst ec_
                  clear en_
                  have p335 : 0 ≤ (x5_1 : Int) := of_decide_eq_true (by first | (with_reducible assumption) | assumption)
                  have q335 : x5_1 < (l1.length : Int) := of_decide_eq_true (by first | (with_reducible assumption) | assumption)
                  obtain ⟨ad335, A335_1, c335_1, e335, hx335_0, hx335_1, hl335_1, hi335_1⟩ := at_T25 HR1.out x5_1 p335 q335
                  obtain rfl : ad333 = ad335 := (by injection e335)
                  have HR335_1 := Aside0.mk hi335_1
                  have HC335_1 := Aside0.mk hl335_1
                  clear hi335_1 hl335_1
                  replace p335 := eq_true p335
                  replace q335 := eq_true q335
                  have ea_ := Option.some.inj (hx333_1.symm.trans hx335_1)
                  injection ea_ with ea_ en_ ec_
                  subst ea_
                  subst ec_
                  clear en_
                  go_wp2
                  repeat (go_quiet (fail); try go_wp2)
                  go_meet
                  case rel => exact ⟨_, (((((rd_T25 l0 x5_1).f1).length : Int) != (((rd_T25 l1 x5_1).f1).length : Int))), (by first | rfl | (simp; done) | (simp [*]; done)), H', ⟨by have := HK1.out; first | omega | exact Nat.le_refl _⟩, by repeat (first | exact Drawn0.refl _ | apply Drawn0.step)⟩
                · rw [if_neg c8] at H
                  have c8b0 : (((rd_T25 l0 x5_1).f0) == ((rd_T25 l1 x5_1).f0)) = false := beq_eq_false_iff_ne.mpr c8
                  have c8b1 : (((rd_T25 l0 x5_1).f0) != ((rd_T25 l1 x5_1).f0)) = true := bne_iff_ne.mpr c8
                  have H' := Aside0.mk H
                  clear H
                  have p332 : 0 ≤ (x5_1 : Int) := of_decide_eq_true (by first | (with_reducible assumption) | assumption)
                  have q332 : x5_1 < (l0.length : Int) := of_decide_eq_true (by first | (with_reducible assumption) | assumption)
                  obtain ⟨ad332, A332_1, c332_1, e332, hx332_0, hx332_1, hl332_1, hi332_1⟩ := at_T25 HR0.out x5_1 p332 q332
                  cases e332
                  have HR332_1 := Aside0.mk hi332_1
                  have HC332_1 := Aside0.mk hl332_1
                  clear hi332_1 hl332_1
                  replace p332 := eq_true p332
                  replace q332 := eq_true q332
                  have p333 : 0 ≤ (x5_1 : Int) := of_decide_eq_true (by first | (with_reducible assumption) | assumption)
                  have q333 : x5_1 < (l1.length : Int) := of_decide_eq_true (by first | (with_reducible assumption) | assumption)
                  obtain ⟨ad333, A333_1, c333_1, e333, hx333_0, hx333_1, hl333_1, hi333_1⟩ := at_T25 HR1.out x5_1 p333 q333
                  cases e333
                  have HR333_1 := Aside0.mk hi333_1
                  have HC333_1 := Aside0.mk hl333_1
                  clear hi333_1 hl333_1
                  replace p333 := eq_true p333
                  replace q333 := eq_true q333
                  go_wp2
                  repeat (go_quiet (fail); try go_wp2)
                  go_meet
                  case rel => exact ⟨_, (true), (by first | rfl | (simp; done) | (simp [*]; done)), H', ⟨by have := HK1.out; first | omega | exact Nat.le_refl _⟩, by repeat (first | exact Drawn0.refl _ | apply Drawn0.step)⟩
              · rw [if_neg c7] at H
                exact absurd H (by simp)
            · rw [if_neg c6] at H
              exact absurd H (by simp)
          case rest =>
            clear HC5
            try clear c1
            try clear c2
            try clear p2
            try clear c3
            try clear c3b0
            try clear c3b1
            try clear c3b2
            try clear p3
            try clear q3
            try clear hx3
            try clear c4
            try clear c4b0
            try clear c6
            try clear c6b0
            try clear c7
            try clear c7b0
            try clear c8
            try clear c8b0
            try clear c8b1
            try clear hx332_0
            try clear hx332_1
            try clear hx333_0
            try clear hx333_1
            try clear hx334_0
            try clear hx334_1
            try clear hx335_0
            try clear hx335_1
            try clear p2
            try clear p332
            try clear p333
            try clear p334
            try clear p335
            try clear q332
            try clear q333
            try clear q334
            try clear q335
            obtain ⟨kq, x43_4, rfl, HA, HJ4, ⟨mc4, rfl⟩⟩ := hcut
            cases kq with
            | zero => exact absurd HA.out (by simp [scrivenerref07_SameFrags.j1])
            | succ kj4 =>
              have H := HA.out
              clear HA
              simp only [scrivenerref07_SameFrags.j1] at H
              by_cases c9 : x43_4 = true
              · subst c9
                rw [if_pos rfl] at H
                obtain rfl := Option.some.inj H
                go_wp2
                repeat (go_quiet (fail); try go_wp2)
                go_ret
                exact ⟨by first | rfl | (simp; done) | (simp [*]; done), by repeat (first | exact Drawn0.refl _ | apply Drawn0.step)⟩
              · replace c9 := Bool.eq_false_iff.mpr c9
                subst c9
                rw [if_neg (show ¬ (false = true) by decide)] at H
                have H' := Aside0.mk H
                clear H
                go_wp2
                repeat (go_quiet (fail); try go_wp2)
                go_loopg [6] kj4 (fun kq v6 w' => ∃ (x6_3 : Int), v6 = .int .i64 x6_3 ∧ Aside0 (scrivenerref07_SameFrags.l1 kq l0 l1 x5_1 x6_3 = some r) ∧ Aside0 (kq ≤ kj4) ∧ Drawn0 w w')
                case atStart => exact ⟨(0), (by first | rfl | (simp; done) | (simp [*]; done)), H', ⟨Nat.le_refl _⟩, by repeat (first | exact Drawn0.refl _ | apply Drawn0.step)⟩
                case round =>
                  clear H'
                  try clear c1
                  try clear c2
                  try clear p2
                  try clear c3
                  try clear c3b0
                  try clear c3b1
                  try clear c3b2
                  try clear p3
                  try clear q3
                  try clear hx3
                  try clear c4
                  try clear c4b0
                  try clear c6
                  try clear c6b0
                  try clear c7
                  try clear c7b0
                  try clear c8
                  try clear c8b0
                  try clear c8b1
                  try clear c9
                  try clear hx332_0
                  try clear hx332_1
                  try clear hx333_0
                  try clear hx333_1
                  try clear hx334_0
                  try clear hx334_1
                  try clear hx335_0
                  try clear hx335_1
                  try clear p2
                  try clear p3
                  try clear p332
                  try clear p333
                  try clear p334
                  try clear p335
                  try clear q3
                  try clear q332
                  try clear q333
                  try clear q334
                  try clear q335
                  obtain ⟨x6_3, rfl, HA, HK3, ⟨m3, rfl⟩⟩ := hrel
                  cases gk with
                  | zero => exact absurd HA.out (by simp [scrivenerref07_SameFrags.l1])
                  | succ k3 =>
                    have H := HA.out
                    clear HA
                    simp only [scrivenerref07_SameFrags.l1] at H
                    by_cases c10 : 0 ≤ x5_1
                    · rw [if_pos c10] at H
                      have c10b0 : decide (0 ≤ x5_1) = true := decide_eq_true c10
                      clear c10
                      by_cases c11 : x5_1 < (l0.length : Int)
                      · rw [if_pos c11] at H
                        have c11b0 : decide (x5_1 < (l0.length : Int)) = true := decide_eq_true c11
                        clear c11
                        by_cases c12 : x6_3 < (((rd_T25 l0 x5_1).f1).length : Int)
                        · rw [if_pos c12] at H
                          have c12b0 : decide (x6_3 < (((rd_T25 l0 x5_1).f1).length : Int)) = true := decide_eq_true c12
                          clear c12
                          by_cases c13 : 0 ≤ x6_3
                          · rw [if_pos c13] at H
                            have c13b0 : decide (0 ≤ x6_3) = true := decide_eq_true c13
                            clear c13
                            by_cases c14 : x5_1 < (l1.length : Int)
                            · rw [if_pos c14] at H
                              have c14b0 : decide (x5_1 < (l1.length : Int)) = true := decide_eq_true c14
                              clear c14
                              by_cases c15 : x6_3 < (((rd_T25 l1 x5_1).f1).length : Int)
                              · rw [if_pos c15] at H
                                have c15b0 : decide (x6_3 < (((rd_T25 l1 x5_1).f1).length : Int)) = true := decide_eq_true c15
                                clear c15
                                by_cases c16 : (!(((rd_T32 ((rd_T25 l0 x5_1).f1) x6_3).f0) == ((rd_T32 ((rd_T25 l1 x5_1).f1) x6_3).f0)) || (!(((rd_T32 ((rd_T25 l0 x5_1).f1) x6_3).f1) == ((rd_T32 ((rd_T25 l1 x5_1).f1) x6_3).f1)))) = true
                                · rw [if_pos c16] at H
                                  have c16b0 : (!(((rd_T32 ((rd_T25 l0 x5_1).f1) x6_3).f0) == ((rd_T32 ((rd_T25 l1 x5_1).f1) x6_3).f0)) || (!(((rd_T32 ((rd_T25 l0 x5_1).f1) x6_3).f1) == ((rd_T32 ((rd_T25 l1 x5_1).f1) x6_3).f1)))) = true := c16
                                  clear c16
                                  obtain rfl := Option.some.inj H
                                  have p336 : 0 ≤ (x5_1 : Int) := of_decide_eq_true (by first | (with_reducible assumption) | assumption)
                                  have q336 : x5_1 < (l0.length : Int) := of_decide_eq_true (by first | (with_reducible assumption) | assumption)
                                  obtain ⟨ad336, A336_1, c336_1, e336, hx336_0, hx336_1, hl336_1, hi336_1⟩ := at_T25 HR0.out x5_1 p336 q336
                                  cases e336
                                  have HR336_1 := Aside0.mk hi336_1
                                  have HC336_1 := Aside0.mk hl336_1
                                  clear hi336_1 hl336_1
                                  replace p336 := eq_true p336
                                  replace q336 := eq_true q336
                                  have p337 : 0 ≤ (x5_1 : Int) := of_decide_eq_true (by first | (with_reducible assumption) | assumption)
                                  have q337 : x5_1 < (l0.length : Int) := of_decide_eq_true (by first | (with_reducible assumption) | assumption)
                                  obtain ⟨ad337, A337_1, c337_1, e337, hx337_0, hx337_1, hl337_1, hi337_1⟩ := at_T25 HR0.out x5_1 p337 q337
                                  obtain rfl : ad336 = ad337 := (by injection e337)
                                  have HR337_1 := Aside0.mk hi337_1
                                  have HC337_1 := Aside0.mk hl337_1
                                  clear hi337_1 hl337_1
                                  replace p337 := eq_true p337
                                  replace q337 := eq_true q337
                                  have ea_ := Option.some.inj (hx336_1.symm.trans hx337_1)
                                  injection ea_ with ea_ en_ ec_
                                  subst ea_
                                  subst ec_
                                  clear en_
                                  have p338 : 0 ≤ (x6_3 : Int) := of_decide_eq_true (by first | (with_reducible assumption) | assumption)
                                  have q338 : x6_3 < (((rd_T25 l0 x5_1).f1).length : Int) := of_decide_eq_true (by first | (with_reducible assumption) | assumption)
                                  obtain ⟨ad338, e338, hx338_0, hx338_1⟩ := at_T32 HR337_1.out x6_3 p338 q338
                                  cases e338
                                  replace p338 := eq_true p338
                                  replace q338 := eq_true q338
                                  have p339 : 0 ≤ (x5_1 : Int) := of_decide_eq_true (by first | (with_reducible assumption) | assumption)
                                  have q339 : x5_1 < (l1.length : Int) := of_decide_eq_true (by first | (with_reducible assumption) | assumption)
                                  obtain ⟨ad339, A339_1, c339_1, e339, hx339_0, hx339_1, hl339_1, hi339_1⟩ := at_T25 HR1.out x5_1 p339 q339
                                  cases e339
                                  have HR339_1 := Aside0.mk hi339_1
                                  have HC339_1 := Aside0.mk hl339_1
                                  clear hi339_1 hl339_1
                                  replace p339 := eq_true p339
                                  replace q339 := eq_true q339
                                  have p340 : 0 ≤ (x6_3 : Int) := of_decide_eq_true (by first | (with_reducible assumption) | assumption)
                                  have q340 : x6_3 < (((rd_T25 l1 x5_1).f1).length : Int) := of_decide_eq_true (by first | (with_reducible assumption) | assumption)
                                  obtain ⟨ad340, e340, hx340_0, hx340_1⟩ := at_T32 HR339_1.out x6_3 p340 q340
                                  cases e340
                                  replace p340 := eq_true p340
                                  replace q340 := eq_true q340
                                  go_wp2
                                  repeat (go_quiet (fail); try go_wp2)
                                  go_ret
                                  exact ⟨by first | rfl | (simp; done) | (simp [*]; done), by repeat (first | exact Drawn0.refl _ | apply Drawn0.step)⟩
                                · rw [if_neg c16] at H
                                  have c16b0 : (!(((rd_T32 ((rd_T25 l0 x5_1).f1) x6_3).f0) == ((rd_T32 ((rd_T25 l1 x5_1).f1) x6_3).f0)) || (!(((rd_T32 ((rd_T25 l0 x5_1).f1) x6_3).f1) == ((rd_T32 ((rd_T25 l1 x5_1).f1) x6_3).f1)))) = false := by simpa using c16
                                  clear c16
                                  have H' := Aside0.mk H
                                  clear H
                                  have p336 : 0 ≤ (x5_1 : Int) := of_decide_eq_true (by first | (with_reducible assumption) | assumption)
                                  have q336 : x5_1 < (l0.length : Int) := of_decide_eq_true (by first | (with_reducible assumption) | assumption)
                                  obtain ⟨ad336, A336_1, c336_1, e336, hx336_0, hx336_1, hl336_1, hi336_1⟩ := at_T25 HR0.out x5_1 p336 q336
                                  cases e336
                                  have HR336_1 := Aside0.mk hi336_1
                                  have HC336_1 := Aside0.mk hl336_1
                                  clear hi336_1 hl336_1
                                  replace p336 := eq_true p336
                                  replace q336 := eq_true q336
                                  have p337 : 0 ≤ (x5_1 : Int) := of_decide_eq_true (by first | (with_reducible assumption) | assumption)
                                  have q337 : x5_1 < (l0.length : Int) := of_decide_eq_true (by first | (with_reducible assumption) | assumption)
                                  obtain ⟨ad337, A337_1, c337_1, e337, hx337_0, hx337_1, hl337_1, hi337_1⟩ := at_T25 HR0.out x5_1 p337 q337
                                  obtain rfl : ad336 = ad337 := (by injection e337)
                                  have HR337_1 := Aside0.mk hi337_1
                                  have HC337_1 := Aside0.mk hl337_1
                                  clear hi337_1 hl337_1
                                  replace p337 := eq_true p337
                                  replace q337 := eq_true q337
                                  have ea_ := Option.some.inj (hx336_1.symm.trans hx337_1)
                                  injection ea_ with ea_ en_ ec_
                                  subst ea_
                                  subst ec_
                                  clear en_
                                  have p338 : 0 ≤ (x6_3 : Int) := of_decide_eq_true (by first | (with_reducible assumption) | assumption)
                                  have q338 : x6_3 < (((rd_T25 l0 x5_1).f1).length : Int) := of_decide_eq_true (by first | (with_reducible assumption) | assumption)
                                  obtain ⟨ad338, e338, hx338_0, hx338_1⟩ := at_T32 HR337_1.out x6_3 p338 q338
                                  cases e338
                                  replace p338 := eq_true p338
                                  replace q338 := eq_true q338
                                  have p339 : 0 ≤ (x5_1 : Int) := of_decide_eq_true (by first | (with_reducible assumption) | assumption)
                                  have q339 : x5_1 < (l1.length : Int) := of_decide_eq_true (by first | (with_reducible assumption) | assumption)
                                  obtain ⟨ad339, A339_1, c339_1, e339, hx339_0, hx339_1, hl339_1, hi339_1⟩ := at_T25 HR1.out x5_1 p339 q339
                                  cases e339
                                  have HR339_1 := Aside0.mk hi339_1
                                  have HC339_1 := Aside0.mk hl339_1
                                  clear hi339_1 hl339_1
                                  replace p339 := eq_true p339
                                  replace q339 := eq_true q339
                                  have p340 : 0 ≤ (x6_3 : Int) := of_decide_eq_true (by first | (with_reducible assumption) | assumption)
                                  have q340 : x6_3 < (((rd_T25 l1 x5_1).f1).length : Int) := of_decide_eq_true (by first | (with_reducible assumption) | assumption)
                                  obtain ⟨ad340, e340, hx340_0, hx340_1⟩ := at_T32 HR339_1.out x6_3 p340 q340
                                  cases e340
                                  replace p340 := eq_true p340
                                  replace q340 := eq_true q340
                                  go_wp2
                                  repeat (go_quiet (fail); try go_wp2)
                                  go_roundg k3
                                  case measure => have := HK1.out; have := HJ4.out; have := HK3.out; omega
                                  case rel => exact ⟨(wrap64 (x6_3 + 1)), (by first | rfl | (simp; done) | (simp [*]; done)), H', ⟨by have := HK1.out; have := HJ4.out; have := HK3.out; omega⟩, by repeat (first | exact Drawn0.refl _ | apply Drawn0.step)⟩
                              · rw [if_neg c15] at H
                                exact absurd H (by simp)
                            · rw [if_neg c14] at H
                              exact absurd H (by simp)
                          · rw [if_neg c13] at H
                            exact absurd H (by simp)
                        · rw [if_neg c12] at H
                          have c12b0 : decide (x6_3 < (((rd_T25 l0 x5_1).f1).length : Int)) = false := decide_eq_false c12
                          clear c12
                          have H' := Aside0.mk H
                          clear H
                          have p336 : 0 ≤ (x5_1 : Int) := of_decide_eq_true (by first | (with_reducible assumption) | assumption)
                          have q336 : x5_1 < (l0.length : Int) := of_decide_eq_true (by first | (with_reducible assumption) | assumption)
                          obtain ⟨ad336, A336_1, c336_1, e336, hx336_0, hx336_1, hl336_1, hi336_1⟩ := at_T25 HR0.out x5_1 p336 q336
                          cases e336
                          have HR336_1 := Aside0.mk hi336_1
                          have HC336_1 := Aside0.mk hl336_1
                          clear hi336_1 hl336_1
                          replace p336 := eq_true p336
                          replace q336 := eq_true q336
                          go_wp2
                          repeat (go_quiet (fail); try go_wp2)
                          go_roundg k3
                          case measure => have := HK1.out; have := HJ4.out; have := HK3.out; omega
                          case rel => exact ⟨(wrap64 (x5_1 + 1)), (by first | rfl | (simp; done) | (simp [*]; done)), H', ⟨by have := HK1.out; have := HJ4.out; have := HK3.out; omega⟩, by repeat (first | exact Drawn0.refl _ | apply Drawn0.step)⟩
                      · rw [if_neg c11] at H
                        exact absurd H (by simp)
                    · rw [if_neg c10] at H
                      exact absurd H (by simp)
        · rw [if_neg c4] at H
          have c4b0 : decide (x5_1 < (l0.length : Int)) = false := decide_eq_false c4
          clear c4
          obtain rfl := Option.some.inj H
          go_wp2
          repeat (go_quiet (fail); try go_wp2)
          go_ret
          exact ⟨by first | rfl | (simp; done) | (simp [*]; done), by repeat (first | exact Drawn0.refl _ | apply Drawn0.step)⟩
  · rw [if_neg c3] at H
    have c3b0 : ((l0.length : Int) == (l1.length : Int)) = false := beq_eq_false_iff_ne.mpr c3
    have c3b1 : ((l0.length : Int) != (l1.length : Int)) = true := bne_iff_ne.mpr c3
    have c3b2 : (l0.length == l1.length) = false := by first | simpa using c3 | (simp at c3 ⊢; omega)
    obtain rfl := Option.some.inj H
    go_enter Try.func27, Try.ntmps27
    go_wp2
    repeat (go_quiet (fail); try go_wp2)
    go_ret
    exact ⟨by first | rfl | (simp; done) | (simp [*]; done), by repeat (first | exact Drawn0.refl _ | apply Drawn0.step)⟩
end Go.Proofs.Ytipjnfljkknmgaa.Q
namespace Go.Proofs.Ytipjnfljkknmgaa.Q
open Go.RowKit Go.Proofs.YtipjnfljkknmgaaW.PrintWords Go.Proofs.YtipjnfljkknmgaaW.PrintLast Go.Proofs.YtipjnfljkknmgaaW.PrintMore
attribute [local go_sem] max2_int min2_int max_two min_two max_three min_three max_four min_four   -- for this text's walks alone
set_option linter.unusedVariables false
set_option linter.unusedSimpArgs false
def api_Place_36.l0 : Nat → List (S32) → Int → List (S32) → Int → Int → Option ((List (S32)))
  | 0, _, _, _, _, _ => none
  | k + 1, x0, x1, x7, x9, x10 => if x10 < x9 then (if (x0.length : Int) = 0 then (none) else (if 0 ≤ (Int.tmod (wrap64 (x1 + x10)) (x0.length : Int)) then (if (Int.tmod (wrap64 (x1 + x10)) (x0.length : Int)) < (x0.length : Int) then (if x7.length < 8796093022208 then (api_Place_36.l0 k x0 x1 (x7 ++ [(⟨(rd_T32 x0 (Int.tmod (wrap64 (x1 + x10)) (x0.length : Int))).f0, (rd_T32 x0 (Int.tmod (wrap64 (x1 + x10)) (x0.length : Int))).f1⟩ : S32)]) x9 (wrap64 (x10 + 1))) else (none)) else (none)) else (none))) else (some x7)
def api_Place_36.f (k : Nat) (l0 : List (S32)) (a1 : Int) (a2 : Int) : Option ((List (S32))) := api_Place_36.l0 k l0 a1 ([] : List (S32)) a2 0
set_option maxHeartbeats 8000000 in
set_option maxRecDepth 100000 in
theorem api_Place_36.calls (k : Nat) (A0 : Option Addr) (c0 : Nat) (l0 : List (S32)) (a1 : Int) (a2 : Int) (r : List (S32)) (w : World) (hr0 : Kd.C k32 w A0 l0.length l0) (hc0 : l0.length ≤ c0) (h : api_Place_36.f k l0 a1 a2 = some r) :
    Calls Try.prog 36 #[.slice A0 l0.length c0, .int .i64 a1, .int .i64 a2] w fun e w' => ∃ v0_ : Value, e = .returned (v0_) ∧ Kd.R k32 32 w' w.heap.size (fun _ => True) v0_ r ∧ Below w.heap.size w w' := by
  have hu32 := Try.underlying32
  have HR0 := Aside0.mk hr0
  have HC0 := Aside0.mk hc0
  clear hr0 hc0
  have HB := Aside0.mk (Below.refl w.heap.size w)
  have H : (api_Place_36.l0 k l0 a1 ([] : List (S32)) a2 0) = some r := h
  clear h
  have H' := Aside0.mk H
  clear H
  go_enter Try.func36, Try.ntmps36
  go_wp2
  go_loopg [7, 10] k (fun kq v7 v10 w' => ∃ (x7_1 : List (S32)) (x10_1 : Int), v10 = .int .i64 x10_1 ∧ Aside0 (api_Place_36.l0 kq l0 a1 x7_1 a2 x10_1 = some r) ∧ Aside0 (kq ≤ k) ∧ Aside0 (Kd.R k32 32 w' w.heap.size (fun _ => True) v7 x7_1) ∧ Aside0 (Below w.heap.size w w'))
  case atStart => exact ⟨(([] : List (S32))), (0), (by first | rfl | (simp; done) | (simp [*]; done)), H', ⟨Nat.le_refl _⟩, ⟨by first | exact Kd.R_nil _ _ _ _ _ | exact Kd.N_nil _ _ _ _ _ | exact Kd.V_nil _ _ _ _ _ | exact Kd.Q_nil _ _ _ _ _ | exact Kd.S_nil _ _ _ _ _⟩, ⟨by repeat (first | (with_reducible first | exact HB.out | apply below_alloc | apply pw_below_drewN | apply below_drew1) | exact HB.out)⟩⟩
  case round =>
    clear H'
    try clear p2
    try clear c3
    obtain ⟨x7_1, x10_1, rfl, HA, HK1, HO_7, HB⟩ := hrel
    cases gk with
    | zero => exact absurd HA.out (by simp [api_Place_36.l0])
    | succ k1 =>
      have H := HA.out
      clear HA
      simp only [api_Place_36.l0] at H
      by_cases c4 : x10_1 < a2
      · rw [if_pos c4] at H
        have c4b0 : decide (x10_1 < a2) = true := decide_eq_true c4
        clear c4
        by_cases c5 : (l0.length : Int) = 0
        · rw [if_pos c5] at H
          exact absurd H (by simp)
        · rw [if_neg c5] at H
          have c5b0 : ((l0.length : Int) == 0) = false := beq_eq_false_iff_ne.mpr c5
          have c5b1 : ((l0.length : Int) != 0) = true := bne_iff_ne.mpr c5
          have c5b2 : ¬ (l0 = []) := fun h_ => c5 (by rw [h_]; rfl)
          obtain ⟨ji6, hji6⟩ : ∃ j_ : Int, (Int.tmod (wrap64 (a1 + x10_1)) (l0.length : Int)) = j_ := ⟨_, rfl⟩
          replace H : (if 0 ≤ (ji6) then (if (ji6) < (l0.length : Int) then (if x7_1.length < 8796093022208 then (api_Place_36.l0 k1 l0 a1 (x7_1 ++ [(⟨(rd_T32 l0 (ji6)).f0, (rd_T32 l0 (ji6)).f1⟩ : S32)]) a2 (wrap64 (x10_1 + 1))) else (none)) else (none)) else (none)) = some r := by first | (rw [hji6] at H; exact H) | (simp only [hji6] at H ⊢; exact H)
          by_cases c7 : 0 ≤ (ji6)
          · rw [if_pos c7] at H
            have c7b0 : decide (0 ≤ (ji6)) = true := decide_eq_true c7
            clear c7
            by_cases c8 : (ji6) < (l0.length : Int)
            · rw [if_pos c8] at H
              have c8b0 : decide ((ji6) < (l0.length : Int)) = true := decide_eq_true c8
              clear c8
              by_cases c9 : x7_1.length < 8796093022208
              · rw [if_pos c9] at H
                have LMc9 := Aside0.mk c9
                clear c9
                obtain ⟨y113, hy113⟩ : ∃ y_ : List (S32), y_ = (x7_1 ++ [(⟨(rd_T32 l0 (ji6)).f0, (rd_T32 l0 (ji6)).f1⟩ : S32)]) := ⟨_, rfl⟩
                replace H : (api_Place_36.l0 k1 l0 a1 y113 a2 (wrap64 (x10_1 + 1))) = some r := by first | (rw [hy113]; with_reducible exact H) | (have H2_ := (Option.bind_some _ _).symm.trans H; rw [hy113]; with_reducible exact H2_) | (have H2_ := (Option.bind_some _ _).symm.trans H; with_reducible exact H2_) | with_reducible exact H | (rw [hy113]; exact H) | exact H
                have Ny113 := Aside0.mk hy113
                clear hy113
                have H' := Aside0.mk H
                clear H
                have p112 : 0 ≤ ((ji6) : Int) := of_decide_eq_true (by first | (with_reducible assumption) | assumption)
                have q112 : (ji6) < (l0.length : Int) := of_decide_eq_true (by first | (with_reducible assumption) | assumption)
                obtain ⟨ad112, e112, hx112_0, hx112_1⟩ := at_T32 HR0.out (ji6) p112 q112
                cases e112
                replace hx112_0 := (HB.out.cell (World.block_lt_of_cell? w _ hx112_0)).trans hx112_0
                replace hx112_1 := (HB.out.cell (World.block_lt_of_cell? w _ hx112_1)).trans hx112_1
                replace p112 := eq_true p112
                replace q112 := eq_true q112
                go_wp2_with (first | ((with_reducible refine gate_builtin (b := .append) (xs := #[.tmp 13, .tmp 23]) rfl ?_); at_builtin; refine Kd.R_append k32 (w0 := w) w.heap.size rfl (.tmp 13) (.tmp 23) 23 32 (.agg #[(.int .i64 0), (.int .u64 0)]) 16 rfl Try.underlying23 info32 rfl (by decide) (by omega) u7 x7_1 (⟨(rd_T32 l0 (ji6)).f0, (rd_T32 l0 (ji6)).f1⟩ : S32) [.int .i64 ((rd_T32 l0 (ji6)).f0), .int .u64 ((rd_T32 l0 (ji6)).f1)] (fun _ => True) (fun _ => False) rfl rfl ?aP (fun _ hk => hk.elim) ?aF ?aO ?aB ?aS ?aL ?_; (case aP => exact k32_mkM _ _ _ (⟨(rd_T32 l0 (ji6)).f0, (rd_T32 l0 (ji6)).f1⟩ : S32)); (case aB => exact (Hb HB.out)); (case aF => exact (fun _ _ => trivial)); (case aO => exact (Rb HO_7.out)); (case aS => exact (below_size (Hb HB.out))); (case aL => have := LMc9.out; omega); intro v114 w10 ho hb hg hat; rw [← Ny113.out] at ho; have n0_ := Aside0.mk (hb); have n1_ := Aside0.mk (ho); clear HB; clear HO_7; have HB := n0_; have HO115 := n1_; clear n0_ n1_; clear ho hb hg hat))
                go_roundg k1
                case measure => have := HK1.out; omega
                case rel => exact ⟨(y113), (wrap64 (x10_1 + 1)), (by first | rfl | (simp; done) | (simp [*]; done)), H', ⟨by have := HK1.out; omega⟩, ⟨by (with_reducible repeat (first | apply Kd.R_alloc | apply Kd.R_drewN | apply Kd.R_drew)); exact HO115.out⟩, ⟨by repeat (first | (with_reducible first | exact HB.out | apply below_alloc | apply pw_below_drewN | apply below_drew1) | exact HB.out)⟩⟩
              · rw [if_neg c9] at H
                exact absurd H (by simp)
            · rw [if_neg c8] at H
              exact absurd H (by simp)
          · rw [if_neg c7] at H
            exact absurd H (by simp)
      · rw [if_neg c4] at H
        have c4b0 : decide (x10_1 < a2) = false := decide_eq_false c4
        clear c4
        obtain rfl := Option.some.inj H
        go_wp2
        go_ret
        exact ⟨_, by first | rfl | (simp [errW_none, errW_some] <;> rfl) | (simp [*, errW_none, errW_some] <;> rfl), by (with_reducible repeat (first | apply Kd.R_alloc | apply Kd.R_drewN | apply Kd.R_drew)); exact HO_7.out, by repeat (first | (with_reducible first | exact HB.out | apply below_alloc | apply pw_below_drewN | apply below_drew1) | exact HB.out)⟩
end Go.Proofs.Ytipjnfljkknmgaa.Q
namespace Go.Proofs.Ytipjnfljkknmgaa.Q
open Go.RowKit Go.Proofs.YtipjnfljkknmgaaW.PrintWords Go.Proofs.YtipjnfljkknmgaaW.PrintLast Go.Proofs.YtipjnfljkknmgaaW.PrintMore
set_option linter.unusedVariables false
set_option linter.unusedSimpArgs false
def lastGo (n : Int) : List S25 → S25 × Bool → S25 × Bool
  | [], a => a
  | x :: l, a => lastGo n l (if x.f0 ≤ n then (x, true) else a)
def stripe_Frag.f (l0 : List S25) (a1 : Int) : Option (Int × List S32 × Bool) :=
  let r := lastGo a1 l0 (z25, false)
  if r.1.f1.length < 8796093022208 then some (r.1.f0, r.1.f1, r.2) else none
theorem drop_rd (l : List S25) (i : Nat) (h : i < l.length) : l.drop i = rd_T25 l (i : Int) :: l.drop (i + 1) := by
  rw [List.drop_eq_getElem_cons h]
  simp [rd_T25, List.getD_eq_getElem?_getD, List.getElem?_eq_getElem h]
set_option maxHeartbeats 8000000 in
set_option maxRecDepth 100000 in
theorem frag1_calls (x n : Int) (A : Option Addr) (m c : Nat) (b : Nat) (w : World) (hb : w.heap[b]? = some (.cells #[.int .u64 n] 22 (0, 0))) :
    Calls Try.prog 53 #[.agg #[.int .u64 x, .slice A m c], .pointer (some ⟨b, 0, none⟩)] w fun e w' => e = .returned (.bool (decide (x ≤ n))) ∧ Below w.heap.size w w' := by
  have HB := Aside0.mk (Below.refl w.heap.size w)
  have hc := (blk_cell hb 0)
  have hlt := blk_lt hb
  go_enter Try.func53, Try.ntmps53
  go_wp2
  go_ret
  exact ⟨rfl, (by repeat (first | (with_reducible first | exact HB.out | apply below_alloc | apply pw_below_drewN | apply below_drew1) | exact HB.out))⟩
/-- The last one of a row whose First is at most n: the loop of stripe.last over the closure of stripe.Frag. -/
theorem last_calls (A0 : Option Addr) (c0 : Nat) (l0 : List S25) (n : Int) (gb : Nat) (w0 w : World) (hB0 : Below w0.heap.size w0 w) (hr0 : Kd.C k25 w0 A0 l0.length l0) (hb : w.heap[gb]? = some (.cells #[.int .u64 n] 22 (0, 0))) :
    Calls Try.prog 52 #[.slice A0 l0.length c0, .func (.func 53) #[] #[.pointer (some ⟨gb, 0, none⟩)]] w fun e w' => ∃ (A : Option Addr) (c : Nat), e = .returned (.tuple #[.agg #[.int .u64 (lastGo n l0 (z25, false)).1.f0, .slice A (lastGo n l0 (z25, false)).1.f1.length c], .bool (lastGo n l0 (z25, false)).2]) ∧ (lastGo n l0 (z25, false)).1.f1.length ≤ c ∧ k32.C w0 A (lastGo n l0 (z25, false)).1.f1.length (lastGo n l0 (z25, false)).1.f1 ∧ Below w.heap.size w w' := by
  have HB := Aside0.mk (Below.refl w.heap.size w)
  have HR0 := Aside0.mk hr0
  have HB0 := Aside0.mk hB0
  have hlen : l0.length ≤ 9223372036854775807 := hr0.2.1
  generalize hr : lastGo n l0 (z25, false) = r
  have Hr := Aside0.mk hr
  have Hbk := Aside0.mk hb
  clear hr hr0 hb hB0
  go_enter Try.func52, Try.ntmps52
  go_wp2_with (first | ((with_reducible refine gate_dst (N := 4) rfl ?_); refine box_event ?hg (N := 4) ?hd (cs := #[.int .u64 0, .slice none 0 0]) (t := 25) ?hr ?_; (case hd => rfl); (case hg => rfl); (case hr => first | (go_simp; done) | (go_simp; rfl)); intro g4 hg w4 hbox hb; have n0_ := Aside0.mk (below_step (by repeat (first | (with_reducible first | exact HB.out | apply below_alloc | apply pw_below_drewN | apply below_drew1) | exact HB.out)) hb); have BK4 := Aside0.mk hbox; have GE4 := Aside0.mk ((by rw [hg]; exact (below_size (by repeat (first | (with_reducible first | exact HB.out | apply below_alloc | apply pw_below_drewN | apply below_drew1) | exact HB.out)))) : w.heap.size ≤ g4); clear HB; have HB := n0_; clear n0_; clear hb hbox hg; have hc4_0 : w4.cell? ⟨g4, 0, none⟩ = some (.int .u64 0) := (blk_cell BK4.out 0).trans rfl; have hf4_0 := blk_frozen BK4.out 0; have hc4_1 : w4.cell? ⟨g4, 1, none⟩ = some (.slice none 0 0) := (blk_cell BK4.out 1).trans rfl; have hf4_1 := blk_frozen BK4.out 1))
  go_loopg [5, 10] l0.length (fun kq v5 v10 w' => ∃ (i : Nat) (x : S25) (ok : Bool) (A : Option Addr) (c : Nat), v5 = .bool ok ∧ v10 = .int .i64 i ∧ Aside0 (lastGo n (l0.drop i) (x, ok) = r) ∧ Aside0 (i + kq = l0.length) ∧ Aside0 (w'.heap[g4]? = some (.cells #[.int .u64 x.f0, .slice A x.f1.length c] 25 (0, 0))) ∧ Aside0 (x.f1.length ≤ c ∧ k32.C w0 A x.f1.length x.f1) ∧ Aside0 (Below w.heap.size w w'))
  case atStart => exact ⟨0, z25, false, none, 0, rfl, rfl, ⟨by simpa using Hr.out⟩, ⟨by omega⟩, ⟨BK4.out⟩, ⟨by simp [z25], by simp [z25, Kd.C, ReadsRow]⟩, HB⟩
  case round =>
    clear Hr HB BK4
    obtain ⟨i, x, ok, A, c, rfl, rfl, HG, HI, BK4, HC, HB⟩ := hrel
    by_cases hlt : i < l0.length
    · obtain ⟨ad, A1, c1, e1, h0, h1, hl1, hi1⟩ := at_T25 HR0.out (i : Int) (by omega) (by omega)
      cases e1
      generalize hy : rd_T25 l0 (i : Int) = y at h0 h1 hl1 hi1
      have HY := Aside0.mk hy
      clear hy
      have HI1 := Aside0.mk (And.intro hl1 hi1)
      clear hl1 hi1
      replace h0 := (HB0.out.cell (World.block_lt_of_cell? w0 _ h0)).trans h0
      replace h1 := (HB0.out.cell (World.block_lt_of_cell? w0 _ h1)).trans h1
      replace h0 := (HB.out.cell (World.block_lt_of_cell? w _ h0)).trans h0
      replace h1 := (HB.out.cell (World.block_lt_of_cell? w _ h1)).trans h1
      simp only [Int.toNat_natCast] at h0 h1
      have BKb := Aside0.mk (blk_below Hbk.out HB.out)
      have GL4 := Aside0.mk (blk_lt BK4.out)
      have hcz4_0 := (blk_cell BK4.out 0)
      clear hcz4_0
      have HG2 : Aside0 (lastGo n (l0.drop (i + 1)) (if y.f0 ≤ n then (y, true) else (x, ok)) = r) := by
        have := HG.out
        rw [drop_rd l0 i hlt, HY.out, lastGo] at this
        exact ⟨this⟩
      clear HG
      by_cases hle : y.f0 ≤ n
      · have hd : decide (y.f0 ≤ n) = true := decide_eq_true hle
        have HG : Aside0 (lastGo n (l0.drop (i + 1)) (y, true) = r) := by have := HG2.out; rw [if_pos hle] at this; exact ⟨this⟩
        clear HG2
        go_wp2_with (first | ((with_reducible refine gate_dst (N := 7) rfl ?_); refine box_event ?hg (N := 7) ?hd (cs := #[.int .u64 0, .slice none 0 0]) (t := 25) ?hr ?_; (case hd => rfl); (case hg => rfl); (case hr => first | (go_simp; done) | (go_simp; rfl)); intro g7 hg w7 hbox hb; have n0_ := Aside0.mk (below_step (by repeat (first | (with_reducible first | exact HB.out | apply below_alloc | apply pw_below_drewN | apply below_drew1) | exact HB.out)) hb); have BK7 := Aside0.mk hbox; have GE7 := Aside0.mk ((by rw [hg]; exact (below_size (by repeat (first | (with_reducible first | exact HB.out | apply below_alloc | apply pw_below_drewN | apply below_drew1) | exact HB.out)))) : w.heap.size ≤ g7); have m0_ := Aside0.mk (blk_below (BK4.out) hb); have NE4_7 := Aside0.mk ((fun e_ => by have := blk_lt (BK4.out); omega) : g4 ≠ g7); have NE7_4 := Aside0.mk ((fun e_ => by have := blk_lt (BK4.out); omega) : g7 ≠ g4); have m1_ := Aside0.mk (blk_below (BKb.out) hb); have NEb_7 := Aside0.mk ((fun e_ => by have := blk_lt (BKb.out); omega) : gb ≠ g7); have NE7_b := Aside0.mk ((fun e_ => by have := blk_lt (BKb.out); omega) : g7 ≠ gb); clear HB; have HB := n0_; clear n0_; clear BK4; have BK4 := m0_; clear m0_; clear BKb; have BKb := m1_; clear m1_; clear hb hbox hg; have hc7_0 : w7.cell? ⟨g7, 0, none⟩ = some (.int .u64 0) := (blk_cell BK7.out 0).trans rfl; have hf7_0 := blk_frozen BK7.out 0; have hc7_1 : w7.cell? ⟨g7, 1, none⟩ = some (.slice none 0 0) := (blk_cell BK7.out 1).trans rfl; have hf7_1 := blk_frozen BK7.out 1) | (go_at_call 53; ((with_reducible refine (frag1_calls _ n A1 _ c1 gb _ ?hq).mono ?_); (case hq => exact (blk_far ((blk_far (BKb.out) NEb_7.out _)) NEb_7.out _)); rintro e w8 ⟨rfl, hb8⟩; have n0_ := Aside0.mk (below_step (below_set (below_set HB.out GE7.out) GE7.out) hb8); have m0_ : Aside0 (w8.heap[g7]? = some (.cells #[.int .u64 y.f0, .slice A1 y.f1.length c1] 25 (0, 0))) := Aside0.mk (blk_below (blk_put ((blk_put (BK7.out) 0 _ rfl)) 1 _ rfl) hb8); have m1_ : Aside0 (w8.heap[g4]? = some (.cells #[.int .u64 x.f0, .slice A x.f1.length c] 25 (0, 0))) := Aside0.mk (blk_below (blk_far ((blk_far (BK4.out) NE4_7.out _)) NE4_7.out _) hb8); clear HB hb8; have HB := n0_; clear n0_ ; clear BK7; have BK7 := m0_; clear m0_; clear BK4; have BK4 := m1_; clear m1_; have hc7_0 : w8.cell? ⟨g7, 0, none⟩ = some (.int .u64 y.f0) := (blk_cell BK7.out 0).trans rfl; have hf7_0 := blk_frozen BK7.out 0; have hc7_1 : w8.cell? ⟨g7, 1, none⟩ = some (.slice A1 y.f1.length c1) := (blk_cell BK7.out 1).trans rfl; have hf7_1 := blk_frozen BK7.out 1; have hc4_0 : w8.cell? ⟨g4, 0, none⟩ = some (.int .u64 x.f0) := (blk_cell BK4.out 0).trans rfl; have hf4_0 := blk_frozen BK4.out 0; have hc4_1 : w8.cell? ⟨g4, 1, none⟩ = some (.slice A x.f1.length c) := (blk_cell BK4.out 1).trans rfl; have hf4_1 := blk_frozen BK4.out 1)))
        go_roundg (l0.length - i - 1)
        case measure => have := HI.out; omega
        case rel => exact ⟨i + 1, y, true, A1, c1, rfl, by go_num, HG, ⟨by have := HI.out; omega⟩, ⟨(blk_put ((blk_put (BK4.out) 0 _ rfl)) 1 _ rfl)⟩, HI1, ⟨(below_set (below_set HB.out GE4.out) GE4.out)⟩⟩
      · have hd : decide (y.f0 ≤ n) = false := decide_eq_false hle
        have HG : Aside0 (lastGo n (l0.drop (i + 1)) (x, ok) = r) := by have := HG2.out; rw [if_neg hle] at this; exact ⟨this⟩
        clear HG2
        go_wp2_with (first | ((with_reducible refine gate_dst (N := 7) rfl ?_); refine box_event ?hg (N := 7) ?hd (cs := #[.int .u64 0, .slice none 0 0]) (t := 25) ?hr ?_; (case hd => rfl); (case hg => rfl); (case hr => first | (go_simp; done) | (go_simp; rfl)); intro g7 hg w7 hbox hb; have n0_ := Aside0.mk (below_step (by repeat (first | (with_reducible first | exact HB.out | apply below_alloc | apply pw_below_drewN | apply below_drew1) | exact HB.out)) hb); have BK7 := Aside0.mk hbox; have GE7 := Aside0.mk ((by rw [hg]; exact (below_size (by repeat (first | (with_reducible first | exact HB.out | apply below_alloc | apply pw_below_drewN | apply below_drew1) | exact HB.out)))) : w.heap.size ≤ g7); have m0_ := Aside0.mk (blk_below (BK4.out) hb); have NE4_7 := Aside0.mk ((fun e_ => by have := blk_lt (BK4.out); omega) : g4 ≠ g7); have NE7_4 := Aside0.mk ((fun e_ => by have := blk_lt (BK4.out); omega) : g7 ≠ g4); have m1_ := Aside0.mk (blk_below (BKb.out) hb); have NEb_7 := Aside0.mk ((fun e_ => by have := blk_lt (BKb.out); omega) : gb ≠ g7); have NE7_b := Aside0.mk ((fun e_ => by have := blk_lt (BKb.out); omega) : g7 ≠ gb); clear HB; have HB := n0_; clear n0_; clear BK4; have BK4 := m0_; clear m0_; clear BKb; have BKb := m1_; clear m1_; clear hb hbox hg; have hc7_0 : w7.cell? ⟨g7, 0, none⟩ = some (.int .u64 0) := (blk_cell BK7.out 0).trans rfl; have hf7_0 := blk_frozen BK7.out 0; have hc7_1 : w7.cell? ⟨g7, 1, none⟩ = some (.slice none 0 0) := (blk_cell BK7.out 1).trans rfl; have hf7_1 := blk_frozen BK7.out 1) | (go_at_call 53; ((with_reducible refine (frag1_calls _ n A1 _ c1 gb _ ?hq).mono ?_); (case hq => exact (blk_far ((blk_far (BKb.out) NEb_7.out _)) NEb_7.out _)); rintro e w8 ⟨rfl, hb8⟩; have n0_ := Aside0.mk (below_step (below_set (below_set HB.out GE7.out) GE7.out) hb8); have m0_ : Aside0 (w8.heap[g7]? = some (.cells #[.int .u64 y.f0, .slice A1 y.f1.length c1] 25 (0, 0))) := Aside0.mk (blk_below (blk_put ((blk_put (BK7.out) 0 _ rfl)) 1 _ rfl) hb8); have m1_ : Aside0 (w8.heap[g4]? = some (.cells #[.int .u64 x.f0, .slice A x.f1.length c] 25 (0, 0))) := Aside0.mk (blk_below (blk_far ((blk_far (BK4.out) NE4_7.out _)) NE4_7.out _) hb8); clear HB hb8; have HB := n0_; clear n0_ ; clear BK7; have BK7 := m0_; clear m0_; clear BK4; have BK4 := m1_; clear m1_; have hc7_0 : w8.cell? ⟨g7, 0, none⟩ = some (.int .u64 y.f0) := (blk_cell BK7.out 0).trans rfl; have hf7_0 := blk_frozen BK7.out 0; have hc7_1 : w8.cell? ⟨g7, 1, none⟩ = some (.slice A1 y.f1.length c1) := (blk_cell BK7.out 1).trans rfl; have hf7_1 := blk_frozen BK7.out 1; have hc4_0 : w8.cell? ⟨g4, 0, none⟩ = some (.int .u64 x.f0) := (blk_cell BK4.out 0).trans rfl; have hf4_0 := blk_frozen BK4.out 0; have hc4_1 : w8.cell? ⟨g4, 1, none⟩ = some (.slice A x.f1.length c) := (blk_cell BK4.out 1).trans rfl; have hf4_1 := blk_frozen BK4.out 1)))
        go_roundg (l0.length - i - 1)
        case measure => have := HI.out; omega
        case rel => exact ⟨i + 1, x, ok, A, c, rfl, by go_num, HG, ⟨by have := HI.out; omega⟩, ⟨BK4.out⟩, HC, HB⟩
    · have hend : (x, ok) = r := by have := HG.out; rwa [List.drop_eq_nil_of_le (by omega), lastGo] at this
      obtain rfl := hend
      have hge : decide ((i : Int) < (l0.length : Int)) = false := by simp; omega
      have hc4_0 : wr.cell? ⟨g4, 0, none⟩ = some (.int .u64 x.f0) := (blk_cell BK4.out 0).trans rfl; have hf4_0 := blk_frozen BK4.out 0; have hc4_1 : wr.cell? ⟨g4, 1, none⟩ = some (.slice A x.f1.length c) := (blk_cell BK4.out 1).trans rfl; have hf4_1 := blk_frozen BK4.out 1
      go_wp2
      refine bodyPost_ret (results_ct rfl _ _ g4 25 #[.int .u64 x.f0, .slice A x.f1.length c] (0, 0) _ rfl (blk_put ((blk_put (BK4.out) 0 _ rfl)) 1 _ rfl) Try.underlying25 rfl (by kernel_rfl)) rfl ?_
      exact ⟨A, c, rfl, HC.out.1, HC.out.2, (below_set (below_set HB.out GE4.out) GE4.out)⟩
set_option maxHeartbeats 8000000 in
set_option maxRecDepth 100000 in
theorem stripe_Frag.calls (A0 : Option Addr) (c0 : Nat) (l0 : List S25) (a1 : Int) (r1 : Int) (r2 : List S32) (r3 : Bool) (w : World) (hr0 : Kd.C k25 w A0 l0.length l0) (hc0 : l0.length ≤ c0) (h : stripe_Frag.f l0 a1 = some (r1, r2, r3)) :
    Calls Try.prog 35 #[.slice A0 l0.length c0, .int .u64 a1] w fun e w' => ∃ v1_ : Value, e = .returned (.tuple #[.agg #[.int .u64 r1, v1_], .bool r3]) ∧ Kd.R k32 32 w' w.heap.size (fun _ => True) v1_ r2 ∧ Below w.heap.size w w' := by
  have HB := Aside0.mk (Below.refl w.heap.size w)
  have HR0 := Aside0.mk hr0
  unfold stripe_Frag.f at h
  dsimp only at h
  have hlast := fun gb W (hb : W.heap[gb]? = some _) (hB : Below w.heap.size w W) => last_calls A0 c0 l0 a1 gb w W hB hr0 hb
  generalize lastGo a1 l0 (z25, false) = R at h hlast
  split at h
  · rename_i hl
    have LM := Aside0.mk hl
    simp only [Option.some.injEq, Prod.mk.injEq] at h
    obtain ⟨rfl, rfl, rfl⟩ := h
    have HLAST := Aside0.mk hlast
    clear hl hr0 hlast
    go_enter Try.func35, Try.ntmps35
    go_wp2_with (first | ((with_reducible refine gate_dst (N := 3) rfl ?_); (refine box_event ?hg (N := 3) ?hd (cs := #[.int .u64 a1]) (t := 22) ?hr ?_; (case hd => rfl); (case hg => rfl); (case hr => first | (go_simp; done) | (go_simp; rfl)); intro g3 hg w3 hbox hb; have z0_ := Aside0.mk (below_step HB.out hb); have z1_ := Aside0.mk (hbox); have z2_ := Aside0.mk (((by rw [hg]; exact (below_size HB.out)) : w.heap.size ≤ g3)); clear HB; have HB := z0_; clear z0_; have BK3 := z1_; clear z1_; have GE3 := z2_; clear z2_; clear hb hbox hg; have hc3_0 : w3.cell? ⟨g3, 0, none⟩ = some (.int .u64 a1) := (blk_cell BK3.out 0).trans rfl; have hf3_0 := blk_frozen BK3.out 0; skip)) | ((with_reducible refine gate_dst (N := 4) rfl ?_); (refine box_event ?hg (N := 4) ?hd (cs := #[.int .u64 0, .slice none 0 0]) (t := 25) ?hr ?_; (case hd => rfl); (case hg => rfl); (case hr => first | (go_simp; done) | (go_simp; rfl)); intro g4 hg w4 hbox hb; clear hc3_0 hf3_0; have z0_ := Aside0.mk (below_step HB.out hb); have z1_ := Aside0.mk (blk_below BK3.out hb); have z2_ := Aside0.mk (hbox); have z3_ := Aside0.mk (((by rw [hg]; exact (below_size HB.out)) : w.heap.size ≤ g4)); have z4_ := Aside0.mk (((fun e_ => by have := blk_lt BK3.out; omega) : g3 ≠ g4)); have z5_ := Aside0.mk (((fun e_ => by have := blk_lt BK3.out; omega) : g4 ≠ g3)); clear HB BK3; have HB := z0_; clear z0_; have BK3 := z1_; clear z1_; have BK4 := z2_; clear z2_; have GE4 := z3_; clear z3_; have NE3_4 := z4_; clear z4_; have NE4_3 := z5_; clear z5_; clear hb hbox hg; have hc3_0 : w4.cell? ⟨g3, 0, none⟩ = some (.int .u64 a1) := (blk_cell BK3.out 0).trans rfl; have hf3_0 := blk_frozen BK3.out 0; have hc4_0 : w4.cell? ⟨g4, 0, none⟩ = some (.int .u64 0) := (blk_cell BK4.out 0).trans rfl; have hf4_0 := blk_frozen BK4.out 0; have hc4_1 : w4.cell? ⟨g4, 1, none⟩ = some (.slice none 0 0) := (blk_cell BK4.out 1).trans rfl; have hf4_1 := blk_frozen BK4.out 1; skip)) | (go_at_call 52; ((with_reducible refine (HLAST.out g3 _ BK3.out HB.out).mono ?_); rintro e w5 ⟨A, c, rfl, hAc, hC, hb⟩; have HC := Aside0.mk hC; have HAC := Aside0.mk hAc; clear hAc hC; clear hc3_0 hf3_0 hc4_0 hf4_0 hc4_1 hf4_1; have z0_ := Aside0.mk (below_step HB.out hb); have z1_ := Aside0.mk (blk_below BK3.out hb); have z2_ := Aside0.mk (blk_below BK4.out hb); clear HB BK3 BK4; have HB := z0_; clear z0_; have BK3 := z1_; clear z1_; have BK4 := z2_; clear z2_; clear hb; have hc3_0 : w5.cell? ⟨g3, 0, none⟩ = some (.int .u64 a1) := (blk_cell BK3.out 0).trans rfl; have hf3_0 := blk_frozen BK3.out 0; have hc4_0 : w5.cell? ⟨g4, 0, none⟩ = some (.int .u64 0) := (blk_cell BK4.out 0).trans rfl; have hf4_0 := blk_frozen BK4.out 0; have hc4_1 : w5.cell? ⟨g4, 1, none⟩ = some (.slice none 0 0) := (blk_cell BK4.out 1).trans rfl; have hf4_1 := blk_frozen BK4.out 1; skip)) | ((with_reducible refine gate_dst (N := 6) rfl ?_); (refine box_event ?hg (N := 6) ?hd (cs := #[.int .u64 0, .slice none 0 0]) (t := 25) ?hr ?_; (case hd => rfl); (case hg => rfl); (case hr => first | (go_simp; done) | (go_simp; rfl)); intro g6 hg w6 hbox hb; clear hc3_0 hf3_0 hc4_0 hf4_0 hc4_1 hf4_1; have z0_ := Aside0.mk (below_step HB.out hb); have z1_ := Aside0.mk (blk_below BK3.out hb); have z2_ := Aside0.mk (blk_below BK4.out hb); have z3_ := Aside0.mk (hbox); have z4_ := Aside0.mk (((by rw [hg]; exact (below_size HB.out)) : w.heap.size ≤ g6)); have z5_ := Aside0.mk (((fun e_ => by have := blk_lt BK3.out; omega) : g3 ≠ g6)); have z6_ := Aside0.mk (((fun e_ => by have := blk_lt BK3.out; omega) : g6 ≠ g3)); have z7_ := Aside0.mk (((fun e_ => by have := blk_lt BK4.out; omega) : g4 ≠ g6)); have z8_ := Aside0.mk (((fun e_ => by have := blk_lt BK4.out; omega) : g6 ≠ g4)); clear HB BK3 BK4; have HB := z0_; clear z0_; have BK3 := z1_; clear z1_; have BK4 := z2_; clear z2_; have BK6 := z3_; clear z3_; have GE6 := z4_; clear z4_; have NE3_6 := z5_; clear z5_; have NE6_3 := z6_; clear z6_; have NE4_6 := z7_; clear z7_; have NE6_4 := z8_; clear z8_; clear hb hbox hg; have hc3_0 : w6.cell? ⟨g3, 0, none⟩ = some (.int .u64 a1) := (blk_cell BK3.out 0).trans rfl; have hf3_0 := blk_frozen BK3.out 0; have hc4_0 : w6.cell? ⟨g4, 0, none⟩ = some (.int .u64 0) := (blk_cell BK4.out 0).trans rfl; have hf4_0 := blk_frozen BK4.out 0; have hc4_1 : w6.cell? ⟨g4, 1, none⟩ = some (.slice none 0 0) := (blk_cell BK4.out 1).trans rfl; have hf4_1 := blk_frozen BK4.out 1; have hc6_0 : w6.cell? ⟨g6, 0, none⟩ = some (.int .u64 0) := (blk_cell BK6.out 0).trans rfl; have hf6_0 := blk_frozen BK6.out 0; have hc6_1 : w6.cell? ⟨g6, 1, none⟩ = some (.slice none 0 0) := (blk_cell BK6.out 1).trans rfl; have hf6_1 := blk_frozen BK6.out 1; skip)) | ((with_reducible refine gate_store (t := 25) (p := 6) rfl ?_); (refine store_event (t := 25) (p := 6) (v := ?vo_wa) (w1 := ((w6.setCell ⟨g6, 0, none⟩ (.int .u64 R.1.f0)).setCell ⟨g6, 1, none⟩ (.slice A R.1.f1.length c))) ?hg ?ho ?hn ?hr ?_; (case ho => rfl); (case hg => rfl); (case hn => rfl); (case hr => first | (go_simp; done) | (go_simp; rfl)); intro wa hw; clear hc3_0 hf3_0 hc4_0 hf4_0 hc4_1 hf4_1 hc6_0 hf6_0 hc6_1 hf6_1; have z0_ := Aside0.mk ((by rw [hw]; exact (below_set (below_set HB.out GE6.out) GE6.out) : Below w.heap.size w wa)); have z1_ := Aside0.mk ((by rw [hw]; exact (blk_far ((blk_far (BK3.out) NE3_6.out _)) NE3_6.out _) : wa.heap[g3]? = some (.cells #[.int .u64 a1] 22 (0, 0)))); have z2_ := Aside0.mk ((by rw [hw]; exact (blk_far ((blk_far (BK4.out) NE4_6.out _)) NE4_6.out _) : wa.heap[g4]? = some (.cells #[.int .u64 0, .slice none 0 0] 25 (0, 0)))); have z3_ := Aside0.mk ((by rw [hw]; exact (blk_put ((blk_put (BK6.out) 0 _ rfl)) 1 _ rfl) : wa.heap[g6]? = some (.cells #[.int .u64 R.1.f0, .slice A R.1.f1.length c] 25 (0, 0)))); clear HB BK3 BK4 BK6; have HB := z0_; clear z0_; have BK3 := z1_; clear z1_; have BK4 := z2_; clear z2_; have BK6 := z3_; clear z3_; clear hw; have hc3_0 : wa.cell? ⟨g3, 0, none⟩ = some (.int .u64 a1) := (blk_cell BK3.out 0).trans rfl; have hf3_0 := blk_frozen BK3.out 0; have hc4_0 : wa.cell? ⟨g4, 0, none⟩ = some (.int .u64 0) := (blk_cell BK4.out 0).trans rfl; have hf4_0 := blk_frozen BK4.out 0; have hc4_1 : wa.cell? ⟨g4, 1, none⟩ = some (.slice none 0 0) := (blk_cell BK4.out 1).trans rfl; have hf4_1 := blk_frozen BK4.out 1; have hc6_0 : wa.cell? ⟨g6, 0, none⟩ = some (.int .u64 R.1.f0) := (blk_cell BK6.out 0).trans rfl; have hf6_0 := blk_frozen BK6.out 0; have hc6_1 : wa.cell? ⟨g6, 1, none⟩ = some (.slice A R.1.f1.length c) := (blk_cell BK6.out 1).trans rfl; have hf6_1 := blk_frozen BK6.out 1; skip)) | (go_at_call 44; ((with_reducible refine (api_Place_44.calls A c R.1.f1 R.1.f1 _ (Kd.C_below HC.out HB.out) HAC.out (by unfold api_Place_44.f; rw [if_pos LM.out])).mono ?_); rintro e w7 ⟨v1, rfl, ho, hb⟩; obtain ⟨Av, cv, ev⟩ := Kd.R_slice ho; subst ev; clear hc3_0 hf3_0 hc4_0 hf4_0 hc4_1 hf4_1 hc6_0 hf6_0 hc6_1 hf6_1; have z0_ := Aside0.mk (below_step HB.out hb); have z1_ := Aside0.mk (blk_below BK3.out hb); have z2_ := Aside0.mk (blk_below BK4.out hb); have z3_ := Aside0.mk (blk_below BK6.out hb); have z4_ := Aside0.mk ((Kd.R_lower (Kd.R_mono (Kd.R_bound ho) (fun k_ hk => ⟨⟨⟨trivial, fun e_ => by have := hk.2.1; have := blk_lt BK3.out; omega⟩, fun e_ => by have := hk.2.1; have := blk_lt BK4.out; omega⟩, fun e_ => by have := hk.2.1; have := blk_lt BK6.out; omega⟩)) (below_size HB.out) : Kd.R k32 32 w7 w.heap.size (fun k_ : Nat => (((True) ∧ k_ ≠ g3) ∧ k_ ≠ g4) ∧ k_ ≠ g6) (.slice Av R.1.f1.length cv) (R.1.f1))); clear HB BK3 BK4 BK6; have HB := z0_; clear z0_; have BK3 := z1_; clear z1_; have BK4 := z2_; clear z2_; have BK6 := z3_; clear z3_; have HO := z4_; clear z4_; clear hb; clear ho; have hc3_0 : w7.cell? ⟨g3, 0, none⟩ = some (.int .u64 a1) := (blk_cell BK3.out 0).trans rfl; have hf3_0 := blk_frozen BK3.out 0; have hc4_0 : w7.cell? ⟨g4, 0, none⟩ = some (.int .u64 0) := (blk_cell BK4.out 0).trans rfl; have hf4_0 := blk_frozen BK4.out 0; have hc4_1 : w7.cell? ⟨g4, 1, none⟩ = some (.slice none 0 0) := (blk_cell BK4.out 1).trans rfl; have hf4_1 := blk_frozen BK4.out 1; have hc6_0 : w7.cell? ⟨g6, 0, none⟩ = some (.int .u64 R.1.f0) := (blk_cell BK6.out 0).trans rfl; have hf6_0 := blk_frozen BK6.out 0; have hc6_1 : w7.cell? ⟨g6, 1, none⟩ = some (.slice A R.1.f1.length c) := (blk_cell BK6.out 1).trans rfl; have hf6_1 := blk_frozen BK6.out 1; skip)) | ((with_reducible refine gate_store (t := 23) (p := 17) rfl ?_); (refine store_event (t := 23) (p := 17) (v := ?vo_wb) (w1 := (w7.setCell ⟨g6, 1, none⟩ (.slice Av R.1.f1.length cv))) ?hg ?ho ?hn ?hr ?_; (case ho => rfl); (case hg => rfl); (case hn => rfl); (case hr => first | (go_simp; done) | (go_simp; rfl)); intro wb hw; clear hc3_0 hf3_0 hc4_0 hf4_0 hc4_1 hf4_1 hc6_0 hf6_0 hc6_1 hf6_1; have z0_ := Aside0.mk ((by rw [hw]; exact (below_set HB.out GE6.out) : Below w.heap.size w wb)); have z1_ := Aside0.mk ((by rw [hw]; exact (blk_far (BK3.out) NE3_6.out _) : wb.heap[g3]? = some (.cells #[.int .u64 a1] 22 (0, 0)))); have z2_ := Aside0.mk ((by rw [hw]; exact (blk_far (BK4.out) NE4_6.out _) : wb.heap[g4]? = some (.cells #[.int .u64 0, .slice none 0 0] 25 (0, 0)))); have z3_ := Aside0.mk ((by rw [hw]; exact (blk_put (BK6.out) 1 _ rfl) : wb.heap[g6]? = some (.cells #[.int .u64 R.1.f0, .slice Av R.1.f1.length cv] 25 (0, 0)))); have z4_ := Aside0.mk ((by rw [hw]; exact Kd.R_mono (Kd.R_far (p := ⟨g6, 1, none⟩) HO.out (fun _ hk => hk.2) _) (fun _ hk => hk) : Kd.R k32 32 wb w.heap.size (fun k_ : Nat => (((True) ∧ k_ ≠ g3) ∧ k_ ≠ g4) ∧ k_ ≠ g6) (.slice Av R.1.f1.length cv) (R.1.f1))); clear HB BK3 BK4 BK6 HO; have HB := z0_; clear z0_; have BK3 := z1_; clear z1_; have BK4 := z2_; clear z2_; have BK6 := z3_; clear z3_; have HO := z4_; clear z4_; clear hw; have hc3_0 : wb.cell? ⟨g3, 0, none⟩ = some (.int .u64 a1) := (blk_cell BK3.out 0).trans rfl; have hf3_0 := blk_frozen BK3.out 0; have hc4_0 : wb.cell? ⟨g4, 0, none⟩ = some (.int .u64 0) := (blk_cell BK4.out 0).trans rfl; have hf4_0 := blk_frozen BK4.out 0; have hc4_1 : wb.cell? ⟨g4, 1, none⟩ = some (.slice none 0 0) := (blk_cell BK4.out 1).trans rfl; have hf4_1 := blk_frozen BK4.out 1; have hc6_0 : wb.cell? ⟨g6, 0, none⟩ = some (.int .u64 R.1.f0) := (blk_cell BK6.out 0).trans rfl; have hf6_0 := blk_frozen BK6.out 0; have hc6_1 : wb.cell? ⟨g6, 1, none⟩ = some (.slice Av R.1.f1.length cv) := (blk_cell BK6.out 1).trans rfl; have hf6_1 := blk_frozen BK6.out 1; skip)) | ((with_reducible refine gate_store (t := 25) (p := 4) rfl ?_); (refine store_event (t := 25) (p := 4) (v := ?vo_wc) (w1 := ((wb.setCell ⟨g4, 0, none⟩ (.int .u64 R.1.f0)).setCell ⟨g4, 1, none⟩ (.slice Av R.1.f1.length cv))) ?hg ?ho ?hn ?hr ?_; (case ho => rfl); (case hg => rfl); (case hn => rfl); (case hr => first | (go_simp; done) | (go_simp; rfl)); intro wc hw; clear hc3_0 hf3_0 hc4_0 hf4_0 hc4_1 hf4_1 hc6_0 hf6_0 hc6_1 hf6_1; have z0_ := Aside0.mk ((by rw [hw]; exact (below_set (below_set HB.out GE4.out) GE4.out) : Below w.heap.size w wc)); have z1_ := Aside0.mk ((by rw [hw]; exact (blk_far ((blk_far (BK3.out) NE3_4.out _)) NE3_4.out _) : wc.heap[g3]? = some (.cells #[.int .u64 a1] 22 (0, 0)))); have z2_ := Aside0.mk ((by rw [hw]; exact (blk_put ((blk_put (BK4.out) 0 _ rfl)) 1 _ rfl) : wc.heap[g4]? = some (.cells #[.int .u64 R.1.f0, .slice Av R.1.f1.length cv] 25 (0, 0)))); have z3_ := Aside0.mk ((by rw [hw]; exact (blk_far ((blk_far (BK6.out) NE6_4.out _)) NE6_4.out _) : wc.heap[g6]? = some (.cells #[.int .u64 R.1.f0, .slice Av R.1.f1.length cv] 25 (0, 0)))); have z4_ := Aside0.mk ((by rw [hw]; exact Kd.R_mono (Kd.R_far (p := ⟨g4, 1, none⟩) (Kd.R_far (p := ⟨g4, 0, none⟩) HO.out (fun _ hk => hk.1.2) _) (fun _ hk => hk.1.2) _) (fun _ hk => hk) : Kd.R k32 32 wc w.heap.size (fun k_ : Nat => (((True) ∧ k_ ≠ g3) ∧ k_ ≠ g4) ∧ k_ ≠ g6) (.slice Av R.1.f1.length cv) (R.1.f1))); clear HB BK3 BK4 BK6 HO; have HB := z0_; clear z0_; have BK3 := z1_; clear z1_; have BK4 := z2_; clear z2_; have BK6 := z3_; clear z3_; have HO := z4_; clear z4_; clear hw; have hc3_0 : wc.cell? ⟨g3, 0, none⟩ = some (.int .u64 a1) := (blk_cell BK3.out 0).trans rfl; have hf3_0 := blk_frozen BK3.out 0; have hc4_0 : wc.cell? ⟨g4, 0, none⟩ = some (.int .u64 R.1.f0) := (blk_cell BK4.out 0).trans rfl; have hf4_0 := blk_frozen BK4.out 0; have hc4_1 : wc.cell? ⟨g4, 1, none⟩ = some (.slice Av R.1.f1.length cv) := (blk_cell BK4.out 1).trans rfl; have hf4_1 := blk_frozen BK4.out 1; have hc6_0 : wc.cell? ⟨g6, 0, none⟩ = some (.int .u64 R.1.f0) := (blk_cell BK6.out 0).trans rfl; have hf6_0 := blk_frozen BK6.out 0; have hc6_1 : wc.cell? ⟨g6, 1, none⟩ = some (.slice Av R.1.f1.length cv) := (blk_cell BK6.out 1).trans rfl; have hf6_1 := blk_frozen BK6.out 1; skip)))
    refine bodyPost_ret (results_ct rfl _ _ g4 25 #[.int .u64 R.1.f0, .slice Av R.1.f1.length cv] (0, 0) _ rfl BK4.out Try.underlying25 rfl (by kernel_rfl)) rfl ?_
    exact ⟨_, rfl, (Kd.R_mono HO.out (fun _ _ => trivial)), HB.out⟩
  · exact absurd h (by simp)
end Go.Proofs.Ytipjnfljkknmgaa.Q
namespace Go.Proofs.Ytipjnfljkknmgaa.Q
open Go.RowKit Go.Proofs.YtipjnfljkknmgaaW.PrintWords Go.Proofs.YtipjnfljkknmgaaW.PrintLast Go.Proofs.YtipjnfljkknmgaaW.PrintMore
attribute [local go_sem] max2_int min2_int max_two min_two max_three min_three max_four min_four   -- for this text's walks alone
set_option linter.unusedVariables false
set_option linter.unusedSimpArgs false
def stripe_Set.f (k : Nat) (l0 : List (S25)) (a1 : Int) (a2 : Int) : Option ((List (S32))) := (stripe_Frag.f l0 a2).bind fun bt116 => (if bt116.2.2 = true then (if a1 < 1 then (some ([] : List (S32))) else (if a1 > (bt116.2.1.length : Int) then (some ([] : List (S32))) else (if (IntKind.u64.wrap ((bt116.2.1.length : Int))) = 0 then (none) else ((api_Place_36.f k bt116.2.1 (wrap64 (Int.tmod (IntKind.u64.wrap (a2 - bt116.1)) (IntKind.u64.wrap ((bt116.2.1.length : Int))))) a1).bind fun t122 => (some t122))))) else (some ([] : List (S32))))
def stripe_Set.T5 : Bool × List (List Nat × List Nat) := (true, [([], []), ([0], [0]), ([], []), ([], []), ([3], [3]), ([2, 4], [2, 4]), ([], []), ([6], [6]), ([5, 7], [5, 7]), ([8], [8]), ([], []), ([1, 9, 10], [1, 9, 10]), ([11, 11, 0, 1, 2, 3, 4, 5, 6, 7, 8, 9, 10, 11], [11])])
def stripe_Set.B5 : List Nat := [0, 1, 0, 0, 8, 28, 0, 64, 252, 508, 0, 2047, 4095]
theorem stripe_Set.tab5 : rtab .any (opsOf Try.f13 5) = stripe_Set.T5 := by kernel_rfl
theorem stripe_Set.bits5 : waitsOk stripe_Set.T5.2 stripe_Set.B5 = true := by kernel_rfl
set_option maxHeartbeats 8000000 in
set_option maxRecDepth 100000 in
theorem stripe_Set.calls (k : Nat) (A0 : Option Addr) (c0 : Nat) (l0 : List (S25)) (a1 : Int) (a2 : Int) (r : List (S32)) (w : World) (hr0 : Kd.C k25 w A0 l0.length l0) (hc0 : l0.length ≤ c0) (h : stripe_Set.f k l0 a1 a2 = some r) :
    Calls Try.prog 13 #[.slice A0 l0.length c0, .int .i64 a1, .int .u64 a2] w fun e w' => ∃ v0_ : Value, e = .returned (v0_) ∧ Kd.R k32 32 w' w.heap.size (fun _ => True) v0_ r ∧ Below w.heap.size w w' := by
  have hu25 := Try.underlying25
  have HR0 := Aside0.mk hr0
  have HC0 := Aside0.mk hc0
  clear hr0 hc0
  have HB := Aside0.mk (Below.refl w.heap.size w)
  have H : ((stripe_Frag.f l0 a2).bind fun bt116 => (if bt116.2.2 = true then (if a1 < 1 then (some ([] : List (S32))) else (if a1 > (bt116.2.1.length : Int) then (some ([] : List (S32))) else (if (IntKind.u64.wrap ((bt116.2.1.length : Int))) = 0 then (none) else ((api_Place_36.f k bt116.2.1 (wrap64 (Int.tmod (IntKind.u64.wrap (a2 - bt116.1)) (IntKind.u64.wrap ((bt116.2.1.length : Int))))) a1).bind fun t122 => (some t122))))) else (some ([] : List (S32))))) = some r := h
  clear h
  replace H := Option.bind_eq_some_iff.mp H
  obtain ⟨⟨t116, t117, t120⟩, A40, H⟩ := H
  replace H : (if t120 = true then (if a1 < 1 then (some ([] : List (S32))) else (if a1 > (t117.length : Int) then (some ([] : List (S32))) else (if (IntKind.u64.wrap ((t117.length : Int))) = 0 then (none) else ((api_Place_36.f k t117 (wrap64 (Int.tmod (IntKind.u64.wrap (a2 - t116)) (IntKind.u64.wrap ((t117.length : Int))))) a1).bind fun t122 => (some t122))))) else (some ([] : List (S32)))) = some r := H
  have A4 := Aside0.mk A40
  clear A40
  by_cases c5 : t120 = true
  · subst c5
    rw [if_pos rfl] at H
    by_cases c6 : a1 < 1
    · rw [if_pos c6] at H
      have c6b0 : decide (a1 < 1) = true := decide_eq_true c6
      clear c6
      obtain rfl := Option.some.inj H
      go_enter Try.func13, Try.ntmps13
      go_wp2_with (first | ((with_reducible refine gate_callee (f := 35) rfl ?_); refine goesL_ (some 13) rfl rfl Try.func35 (by kernel_rfl) rfl #[.slice A0 l0.length c0, .int .u64 a2] rfl (by (try simp only [List.map_toArray, List.map_cons, List.map_nil]); first | done | rfl | (simp only [List.length_drop, List.length_take]; rfl)) ?_; (with_reducible refine (stripe_Frag.calls _ _ l0 a2 t116 t117 true _ ?side1 ?side2 A4.out).mono ?_); (case side1 => repeat (first | exact HR0.out | (with_reducible refine Kd.C_alloc ?_ _) | (with_reducible refine Kd.C_drewN ?_ _) | (with_reducible refine Kd.C_drew ?_))); (case side2 => exact HC0.out); rintro e w7 ⟨v118, rfl, ho0, hb⟩; refine ⟨_, rfl, ?_⟩; have n0_ := Aside0.mk (Kd.R_lower ho0 (below_size (Hb HB.out))); have n1_ := Aside0.mk (below_step (Hb HB.out) hb); clear HB; have HO119 := n0_; have HB := n1_; clear n0_ n1_; (try clear hb); (try clear hb2); (try clear hk); (try clear hi); (try clear ho0)) | ((with_reducible refine gate_dst (N := 7) rfl ?_); refine box_event ?hg (N := 7) ?hd (cs := #[.int .u64 0, .slice none 0 0]) (t := 25) ?hr ?_; (case hd => rfl); (case hg => rfl); (case hr => first | (go_simp; done) | (go_simp; rfl)); intro gb121 hg w8 hbox hb; have n0_ := Aside0.mk (Kd.R_below (Rb HO119.out) hb); have n1_ := Aside0.mk (below_step (Hb HB.out) hb); have n2_ := Aside0.mk (hbox); have n3_ := Aside0.mk ((by rw [hg]; exact (below_size (Hb HB.out)) : w.heap.size ≤ gb121)); have n4_ := Aside0.mk ((by rw [hg]; exact (below_size (Hb HB.out)) : w.heap.size ≤ gb121)); clear HO119; clear HB; have HO119 := n0_; have HB := n1_; have BK121 := n2_; have GW121 := n3_; have GE121 := n4_; clear n0_ n1_ n2_ n3_ n4_; clear hb hbox hg; have hcz9_0 : w8.cell? ⟨gb121, 0, none⟩ = some (.int .u64 0) := (blk_cell BK121.out 0).trans rfl; have hcz9_1 : w8.cell? ⟨gb121, 1, none⟩ = some (.slice none 0 0) := (blk_cell BK121.out 1).trans rfl; have hfz9_0 := blk_frozen BK121.out 0; have hfz9_1 := blk_frozen BK121.out 1; obtain ⟨Ao10, co10, eo10⟩ := Kd.R_slice HO119.out; subst eo10))
      go_ret
      exact ⟨_, by first | rfl | (simp [errW_none, errW_some] <;> rfl) | (simp [*, errW_none, errW_some] <;> rfl), by first | exact Kd.R_nil _ _ _ _ _ | exact Kd.N_nil _ _ _ _ _ | exact Kd.V_nil _ _ _ _ _ | exact Kd.Q_nil _ _ _ _ _ | exact Kd.S_nil _ _ _ _ _, by repeat (first | (with_reducible first | exact HB.out | apply below_alloc | apply pw_below_drewN | apply below_drew1 | refine below_set ?_ GE121.out) | exact HB.out)⟩
    · rw [if_neg c6] at H
      have c6b0 : decide (a1 < 1) = false := decide_eq_false c6
      clear c6
      by_cases c11 : a1 > (t117.length : Int)
      · rw [if_pos c11] at H
        have c11b0 : decide ((t117.length : Int) < a1) = true := decide_eq_true c11
        clear c11
        obtain rfl := Option.some.inj H
        go_enter Try.func13, Try.ntmps13
        go_wp2_with (first | ((with_reducible refine gate_callee (f := 35) rfl ?_); refine goesL_ (some 13) rfl rfl Try.func35 (by kernel_rfl) rfl #[.slice A0 l0.length c0, .int .u64 a2] rfl (by (try simp only [List.map_toArray, List.map_cons, List.map_nil]); first | done | rfl | (simp only [List.length_drop, List.length_take]; rfl)) ?_; (with_reducible refine (stripe_Frag.calls _ _ l0 a2 t116 t117 true _ ?side1 ?side2 A4.out).mono ?_); (case side1 => repeat (first | exact HR0.out | (with_reducible refine Kd.C_alloc ?_ _) | (with_reducible refine Kd.C_drewN ?_ _) | (with_reducible refine Kd.C_drew ?_))); (case side2 => exact HC0.out); rintro e w12 ⟨v118, rfl, ho0, hb⟩; refine ⟨_, rfl, ?_⟩; have n0_ := Aside0.mk (Kd.R_lower ho0 (below_size (Hb HB.out))); have n1_ := Aside0.mk (below_step (Hb HB.out) hb); clear HB; have HO119 := n0_; have HB := n1_; clear n0_ n1_; (try clear hb); (try clear hb2); (try clear hk); (try clear hi); (try clear ho0)) | ((with_reducible refine gate_dst (N := 7) rfl ?_); refine box_event ?hg (N := 7) ?hd (cs := #[.int .u64 0, .slice none 0 0]) (t := 25) ?hr ?_; (case hd => rfl); (case hg => rfl); (case hr => first | (go_simp; done) | (go_simp; rfl)); intro gb121 hg w13 hbox hb; have n0_ := Aside0.mk (Kd.R_below (Rb HO119.out) hb); have n1_ := Aside0.mk (below_step (Hb HB.out) hb); have n2_ := Aside0.mk (hbox); have n3_ := Aside0.mk ((by rw [hg]; exact (below_size (Hb HB.out)) : w.heap.size ≤ gb121)); have n4_ := Aside0.mk ((by rw [hg]; exact (below_size (Hb HB.out)) : w.heap.size ≤ gb121)); clear HO119; clear HB; have HO119 := n0_; have HB := n1_; have BK121 := n2_; have GW121 := n3_; have GE121 := n4_; clear n0_ n1_ n2_ n3_ n4_; clear hb hbox hg; have hcz14_0 : w13.cell? ⟨gb121, 0, none⟩ = some (.int .u64 0) := (blk_cell BK121.out 0).trans rfl; have hcz14_1 : w13.cell? ⟨gb121, 1, none⟩ = some (.slice none 0 0) := (blk_cell BK121.out 1).trans rfl; have hfz14_0 := blk_frozen BK121.out 0; have hfz14_1 := blk_frozen BK121.out 1; obtain ⟨Ao15, co15, eo15⟩ := Kd.R_slice HO119.out; subst eo15))
        go_ret
        exact ⟨_, by first | rfl | (simp [errW_none, errW_some] <;> rfl) | (simp [*, errW_none, errW_some] <;> rfl), by first | exact Kd.R_nil _ _ _ _ _ | exact Kd.N_nil _ _ _ _ _ | exact Kd.V_nil _ _ _ _ _ | exact Kd.Q_nil _ _ _ _ _ | exact Kd.S_nil _ _ _ _ _, by repeat (first | (with_reducible first | exact HB.out | apply below_alloc | apply pw_below_drewN | apply below_drew1 | refine below_set ?_ GE121.out) | exact HB.out)⟩
      · rw [if_neg c11] at H
        have c11b0 : decide ((t117.length : Int) < a1) = false := decide_eq_false c11
        clear c11
        by_cases c16 : (IntKind.u64.wrap ((t117.length : Int))) = 0
        · rw [if_pos c16] at H
          exact absurd H (by simp)
        · rw [if_neg c16] at H
          have c16b0 : ((IntKind.u64.wrap ((t117.length : Int))) == 0) = false := beq_eq_false_iff_ne.mpr c16
          have c16b1 : ((IntKind.u64.wrap ((t117.length : Int))) != 0) = true := bne_iff_ne.mpr c16
          replace H := Option.bind_eq_some_iff.mp H
          obtain ⟨t122, A170, H⟩ := H
          replace H : (some t122) = some r := H
          have A17 := Aside0.mk A170
          clear A170
          obtain rfl := Option.some.inj H
          go_enter Try.func13, Try.ntmps13
          try go_wp2_with (first | ((with_reducible refine gate_callee (f := 35) rfl ?_); refine goesL_ (some 13) rfl rfl Try.func35 (by kernel_rfl) rfl #[.slice A0 l0.length c0, .int .u64 a2] rfl (by (try simp only [List.map_toArray, List.map_cons, List.map_nil]); first | done | rfl | (simp only [List.length_drop, List.length_take]; rfl)) ?_; (with_reducible refine (stripe_Frag.calls _ _ l0 a2 t116 t117 true _ ?side1 ?side2 A4.out).mono ?_); (case side1 => repeat (first | exact HR0.out | (with_reducible refine Kd.C_alloc ?_ _) | (with_reducible refine Kd.C_drewN ?_ _) | (with_reducible refine Kd.C_drew ?_))); (case side2 => exact HC0.out); rintro e w18 ⟨v118, rfl, ho0, hb⟩; refine ⟨_, rfl, ?_⟩; have n0_ := Aside0.mk (Kd.R_lower ho0 (below_size (Hb HB.out))); have n1_ := Aside0.mk (below_step (Hb HB.out) hb); clear HB; have HO119 := n0_; have HB := n1_; clear n0_ n1_; (try clear hb); (try clear hb2); (try clear hk); (try clear hi); (try clear ho0)) | ((with_reducible refine gate_dst (N := 7) rfl ?_); refine box_event ?hg (N := 7) ?hd (cs := #[.int .u64 0, .slice none 0 0]) (t := 25) ?hr ?_; (case hd => rfl); (case hg => rfl); (case hr => first | (go_simp; done) | (go_simp; rfl)); intro gb121 hg w19 hbox hb; have n0_ := Aside0.mk (Kd.R_below (Rb HO119.out) hb); have n1_ := Aside0.mk (below_step (Hb HB.out) hb); have n2_ := Aside0.mk (hbox); have n3_ := Aside0.mk ((by rw [hg]; exact (below_size (Hb HB.out)) : w.heap.size ≤ gb121)); have n4_ := Aside0.mk ((by rw [hg]; exact (below_size (Hb HB.out)) : w.heap.size ≤ gb121)); clear HO119; clear HB; have HO119 := n0_; have HB := n1_; have BK121 := n2_; have GW121 := n3_; have GE121 := n4_; clear n0_ n1_ n2_ n3_ n4_; clear hb hbox hg; have hcz20_0 : w19.cell? ⟨gb121, 0, none⟩ = some (.int .u64 0) := (blk_cell BK121.out 0).trans rfl; have hcz20_1 : w19.cell? ⟨gb121, 1, none⟩ = some (.slice none 0 0) := (blk_cell BK121.out 1).trans rfl; have hfz20_0 := blk_frozen BK121.out 0; have hfz20_1 := blk_frozen BK121.out 1; obtain ⟨Ao21, co21, eo21⟩ := Kd.R_slice HO119.out; subst eo21))
          have n0_ : Aside0 (Kd.R k32 32 ((w19.setCell ⟨gb121, 0, none⟩ (.int .u64 t116)).setCell ⟨gb121, 1, none⟩ (.slice Ao21 t117.length co21)) w.heap.size (fun _ => True) (.slice Ao21 t117.length co21) t117) := ⟨by (with_reducible repeat (first | apply Kd.R_alloc | apply Kd.R_drewN | apply Kd.R_drew)); exact Kd.R_mono (Kd.R_far (p := ⟨gb121, 1, none⟩) (Kd.R_far (p := ⟨gb121, 0, none⟩) (Kd.R_types HO119.out BK121.out (by decide)) (fun _ hk => hk.2) (.int .u64 t116)) (fun _ hk => hk.2) (.slice Ao21 t117.length co21)) (fun _ hk => trivial)⟩
          have n1_ : Aside0 (((w19.setCell ⟨gb121, 0, none⟩ (.int .u64 t116)).setCell ⟨gb121, 1, none⟩ (.slice Ao21 t117.length co21)).heap[gb121]? = some (.cells #[.int .u64 t116, .slice Ao21 t117.length co21] 25 (0, 0))) := ⟨by (with_reducible repeat (first | refine blk_drewN ?_ _ | refine blk_drew ?_ | refine blk_alloc ?_ _)); refine blk_put (cs := #[.int .u64 t116, .slice none 0 0]) ?_ 1 _ rfl; (with_reducible repeat (first | refine blk_drewN ?_ _ | refine blk_drew ?_ | refine blk_alloc ?_ _)); refine blk_put (cs := #[.int .u64 0, .slice none 0 0]) ?_ 0 _ rfl; (with_reducible repeat (first | refine blk_drewN ?_ _ | refine blk_drew ?_ | refine blk_alloc ?_ _)); exact BK121.out⟩
          have n2_ : Aside0 (Below w.heap.size w ((w19.setCell ⟨gb121, 0, none⟩ (.int .u64 t116)).setCell ⟨gb121, 1, none⟩ (.slice Ao21 t117.length co21))) := ⟨by repeat (first | (with_reducible first | exact HB.out | apply below_alloc | apply pw_below_drewN | apply below_drew1 | refine below_set ?_ GE121.out) | exact HB.out)⟩
          (try clear HO119)
          (try clear BK121)
          (try clear HB)
          generalize ((w19.setCell ⟨gb121, 0, none⟩ (.int .u64 t116)).setCell ⟨gb121, 1, none⟩ (.slice Ao21 t117.length co21)) = w22 at n0_ n1_ n2_ ⊢
          have HO119 := n0_
          have BK121 := n1_
          have HB := n2_
          clear n0_ n1_ n2_
          have n0_ := Aside0.mk (Kd.R_drew HO119.out)
          have n1_ := Aside0.mk (blk_drew BK121.out)
          have n2_ := Aside0.mk (below_drew1 HB.out)
          clear HO119
          clear BK121
          clear HB
          have HO119 := n0_
          have BK121 := n1_
          have HB := n2_
          clear n0_ n1_ n2_
          refine start_ (n := 13) (S := fun w' => w'.cell? ⟨gb121, 0, none⟩ = some (.int .u64 t116) ∧ w'.cell? ⟨gb121, 1, none⟩ = some (.slice Ao21 t117.length co21)) (ds := []) #[false, false, false, false, false, false, false, false, false, false, false, false, false] (by kernel_rfl) rfl rfl ⟨(blk_cell BK121.out 0).trans rfl, (blk_cell BK121.out 1).trans rfl⟩ (fun hHeld => ?_); refine with_tabW stripe_Set.tab5 stripe_Set.bits5 (fun HT_ HW_ => ?_)
          generalize w22.drew = w23 at HO119 BK121 HB hHeld ⊢
          refine pure_ (i := 0) (N := some 30) (v := ?_) (a' := ?_) #[true, false, false, false, false, false, false, false, false, false, false, false, false] rfl rfl (any_of HT_.out (by kernel_rfl)) (fun _ _ _ h => h) (Or.inl ⟨by rfl, ?_⟩) ?_ ?_
          rotate_left
          · intro w'
            go_simp
            with_reducible rfl
          rotate_left
          · simp only [Act.put, List.setIfInBounds_toArray, List.set_cons_zero, List.set_cons_succ, i64_w, i32_w]
            rfl
          refine pure_ (i := 2) (N := some 32) (v := ?_) (a' := ?_) #[true, false, true, false, false, false, false, false, false, false, false, false, false] rfl rfl (any_of HT_.out (by kernel_rfl)) (fun _ _ _ h => h) (Or.inl ⟨by rfl, ?_⟩) ?_ ?_
          rotate_left
          · intro w'
            go_simp
            with_reducible rfl
          rotate_left
          · simp only [Act.put, List.setIfInBounds_toArray, List.set_cons_zero, List.set_cons_succ, i64_w, i32_w]
            rfl
          refine pure_ (i := 3) (N := some 33) (v := ?_) (a' := ?_) #[true, false, true, true, false, false, false, false, false, false, false, false, false] rfl rfl (any_of HT_.out (by kernel_rfl)) (fun _ _ _ h => h) (Or.inl ⟨by rfl, ?_⟩) ?_ ?_
          rotate_left
          · intro w'
            go_simp
            with_reducible rfl
          rotate_left
          · simp only [Act.put, List.setIfInBounds_toArray, List.set_cons_zero, List.set_cons_succ, i64_w, i32_w]
            rfl
          refine pure_ (i := 6) (N := some 36) (v := ?_) (a' := ?_) #[true, false, true, true, false, false, true, false, false, false, false, false, false] rfl rfl (any_of HT_.out (by kernel_rfl)) (fun _ _ _ h => h) (Or.inl ⟨by rfl, ?_⟩) ?_ ?_
          rotate_left
          · intro w'
            go_simp
            with_reducible rfl
          rotate_left
          · simp only [Act.put, List.setIfInBounds_toArray, List.set_cons_zero, List.set_cons_succ, i64_w, i32_w]
            rfl
          refine pure_ (i := 7) (N := some 37) (v := ?_) (a' := ?_) #[true, false, true, true, false, false, true, true, false, false, false, false, false] rfl rfl (any_of HT_.out (by kernel_rfl)) (fun _ _ _ h => h) (Or.inl ⟨by rfl, ?_⟩) ?_ ?_
          rotate_left
          · intro w'
            go_simp
            with_reducible rfl
          rotate_left
          · simp only [Act.put, List.setIfInBounds_toArray, List.set_cons_zero, List.set_cons_succ, i64_w, i32_w]
            rfl
          refine pure_ (i := 10) (N := some 40) (v := ?_) (a' := ?_) #[true, false, true, true, false, false, true, true, false, false, true, false, false] rfl rfl (any_of HT_.out (by kernel_rfl)) (fun _ _ _ h => h) (Or.inl ⟨by rfl, ?_⟩) ?_ ?_
          rotate_left
          · intro w'
            go_simp
            with_reducible rfl
          rotate_left
          · simp only [Act.put, List.setIfInBounds_toArray, List.set_cons_zero, List.set_cons_succ, i64_w, i32_w]
            rfl
          refine take_ (i := 1) (N := some 31) (v := ?_) (a' := ?_) #[true, true, true, true, false, false, true, true, false, false, true, false, false] rfl rfl (take_ofW HT_.out HW_.out (by kernel_rfl)) (fun _ _ _ h => h) (Or.inl ⟨by rfl, ?_⟩) hHeld ?_ ?_
          rotate_left
          · rintro w' ⟨s0, s1⟩
            go_simp
            with_reducible rfl
          rotate_left
          · simp only [Act.put, List.setIfInBounds_toArray, List.set_cons_zero, List.set_cons_succ, i64_w, i32_w]
            rfl
          refine take_ (i := 4) (N := some 34) (v := ?_) (a' := ?_) #[true, true, true, true, true, false, true, true, false, false, true, false, false] rfl rfl (take_ofW HT_.out HW_.out (by kernel_rfl)) (fun _ _ _ h => h) (Or.inl ⟨by rfl, ?_⟩) hHeld ?_ ?_
          rotate_left
          · rintro w' ⟨s0, s1⟩
            go_simp
            with_reducible rfl
          rotate_left
          · simp only [Act.put, List.setIfInBounds_toArray, List.set_cons_zero, List.set_cons_succ, i64_w, i32_w]
            rfl
          refine pure_ (i := 5) (N := some 35) (v := ?_) (a' := ?_) #[true, true, true, true, true, true, true, true, false, false, true, false, false] rfl rfl (any_of HT_.out (by kernel_rfl)) (fun _ _ _ h => h) (Or.inl ⟨by rfl, ?_⟩) ?_ ?_
          rotate_left
          · intro w'
            go_simp
            with_reducible rfl
          rotate_left
          · simp only [Act.put, List.setIfInBounds_toArray, List.set_cons_zero, List.set_cons_succ, i64_w, i32_w]
            rfl
          refine pure_ (i := 8) (N := some 38) (v := ?_) (a' := ?_) #[true, true, true, true, true, true, true, true, true, false, true, false, false] rfl rfl (any_of HT_.out (by kernel_rfl)) (fun _ _ _ h => h) (Or.inl ⟨by rfl, ?_⟩) ?_ ?_
          rotate_left
          · intro w'
            go_simp
            with_reducible rfl
          rotate_left
          · simp only [Act.put, List.setIfInBounds_toArray, List.set_cons_zero, List.set_cons_succ, i64_w, i32_w]
            rfl
          refine pure_ (i := 9) (N := some 39) (v := ?_) (a' := ?_) #[true, true, true, true, true, true, true, true, true, true, true, false, false] rfl rfl (any_of HT_.out (by kernel_rfl)) (fun _ _ _ h => h) (Or.inl ⟨by rfl, ?_⟩) ?_ ?_
          rotate_left
          · intro w'
            go_simp
            with_reducible rfl
          rotate_left
          · simp only [Act.put, List.setIfInBounds_toArray, List.set_cons_zero, List.set_cons_succ, i64_w, i32_w]
            rfl
          refine one_ (i := 11) (N := some 41) #[true, true, true, true, true, true, true, true, true, true, true, true, false] rfl rfl (one_of HT_.out (by kernel_rfl)) (by decide) (fun K hK => ?_)
          refine goes_ Try.func36 (by kernel_rfl) rfl #[.slice Ao21 t117.length co21, .int .i64 (wrap64 (Int.tmod (IntKind.u64.wrap (a2 - t116)) (IntKind.u64.wrap ((t117.length : Int))))), .int .i64 a1] (by rfl) rfl rfl (by (try simp only [List.map_toArray, List.map_cons, List.map_nil]); first | done | rfl | (simp only [List.length_drop, List.length_take]; rfl)) ?_
          with_reducible refine (api_Place_36.calls k _ _ t117 (wrap64 (Int.tmod (IntKind.u64.wrap (a2 - t116)) (IntKind.u64.wrap ((t117.length : Int))))) a1 t122 _ ?side1 ?side2 A17.out).mono ?_
          (case side1 => exact Cb (Kd.R_reads' HO119.out).2.2)
          (case side2 => exact (Kd.R_reads' HO119.out).2.1)
          rintro e w24 ⟨v123, rfl, ho0, hb⟩
          refine ⟨_, rfl, ?_⟩
          have n0_ := Aside0.mk (Kd.R_elder' (Rb HO119.out) (Kd.R_base ho0) hb)
          have n1_ := Aside0.mk (Kd.R_lower (Kd.R_new' ho0 (Kd.R_lt (Rb HO119.out))) (below_size (Hb HB.out)))
          have n2_ := Aside0.mk (blk_below (Bb BK121.out) hb)
          have n3_ := Aside0.mk (below_step (Hb HB.out) hb)
          clear HO119
          clear BK121
          clear HB
          have HO119 := n0_
          have HO124 := n1_
          have BK121 := n2_
          have HB := n3_
          clear n0_ n1_ n2_ n3_
          (try clear hb)
          (try clear hb2)
          (try clear hk)
          (try clear hi)
          (try clear ho0)
          refine hK.out _ _ ⟨(blk_cell BK121.out 0).trans rfl, (blk_cell BK121.out 1).trans rfl⟩ (fun hHeld => ?_)
          clear hK K
          refine norm_ (a' := ?_) ?_ ?_
          rotate_left
          · show Act.put _ (some 41) _ = _
            simp only [Act.put, List.setIfInBounds_toArray, List.set_cons_zero, List.set_cons_succ, i64_w, i32_w]
            rfl
          refine pure_ (i := 12) (N := some 6) (v := ?_) (a' := ?_) #[true, true, true, true, true, true, true, true, true, true, true, true, true] rfl rfl (any_of HT_.out (by kernel_rfl)) (fun _ _ _ h => h) (Or.inl ⟨by rfl, ?_⟩) ?_ ?_
          rotate_left
          · intro w'
            go_simp
            with_reducible rfl
          rotate_left
          · simp only [Act.put, List.setIfInBounds_toArray, List.set_cons_zero, List.set_cons_succ, i64_w, i32_w]
            rfl
          refine done_ (done_of HT_.out (by kernel_rfl)) ?_
          try go_wp2
          go_ret
          exact ⟨_, by first | rfl | (simp [errW_none, errW_some] <;> rfl) | (simp [*, errW_none, errW_some] <;> rfl), by (with_reducible repeat (first | apply Kd.R_alloc | apply Kd.R_drewN | apply Kd.R_drew)); exact Kd.R_mono HO124.out (fun _ hk => trivial), by repeat (first | (with_reducible first | exact HB.out | apply below_alloc | apply pw_below_drewN | apply below_drew1 | refine below_set ?_ GE121.out) | exact HB.out)⟩
  · replace c5 := Bool.eq_false_iff.mpr c5
    subst c5
    rw [if_neg (show ¬ (false = true) by decide)] at H
    obtain rfl := Option.some.inj H
    go_enter Try.func13, Try.ntmps13
    go_wp2_with (first | ((with_reducible refine gate_callee (f := 35) rfl ?_); refine goesL_ (some 13) rfl rfl Try.func35 (by kernel_rfl) rfl #[.slice A0 l0.length c0, .int .u64 a2] rfl (by (try simp only [List.map_toArray, List.map_cons, List.map_nil]); first | done | rfl | (simp only [List.length_drop, List.length_take]; rfl)) ?_; (with_reducible refine (stripe_Frag.calls _ _ l0 a2 t116 t117 false _ ?side1 ?side2 A4.out).mono ?_); (case side1 => repeat (first | exact HR0.out | (with_reducible refine Kd.C_alloc ?_ _) | (with_reducible refine Kd.C_drewN ?_ _) | (with_reducible refine Kd.C_drew ?_))); (case side2 => exact HC0.out); rintro e w25 ⟨v118, rfl, ho0, hb⟩; refine ⟨_, rfl, ?_⟩; have n0_ := Aside0.mk (Kd.R_lower ho0 (below_size (Hb HB.out))); have n1_ := Aside0.mk (below_step (Hb HB.out) hb); clear HB; have HO119 := n0_; have HB := n1_; clear n0_ n1_; (try clear hb); (try clear hb2); (try clear hk); (try clear hi); (try clear ho0)) | ((with_reducible refine gate_dst (N := 7) rfl ?_); refine box_event ?hg (N := 7) ?hd (cs := #[.int .u64 0, .slice none 0 0]) (t := 25) ?hr ?_; (case hd => rfl); (case hg => rfl); (case hr => first | (go_simp; done) | (go_simp; rfl)); intro gb121 hg w26 hbox hb; have n0_ := Aside0.mk (Kd.R_below (Rb HO119.out) hb); have n1_ := Aside0.mk (below_step (Hb HB.out) hb); have n2_ := Aside0.mk (hbox); have n3_ := Aside0.mk ((by rw [hg]; exact (below_size (Hb HB.out)) : w.heap.size ≤ gb121)); have n4_ := Aside0.mk ((by rw [hg]; exact (below_size (Hb HB.out)) : w.heap.size ≤ gb121)); clear HO119; clear HB; have HO119 := n0_; have HB := n1_; have BK121 := n2_; have GW121 := n3_; have GE121 := n4_; clear n0_ n1_ n2_ n3_ n4_; clear hb hbox hg; have hcz27_0 : w26.cell? ⟨gb121, 0, none⟩ = some (.int .u64 0) := (blk_cell BK121.out 0).trans rfl; have hcz27_1 : w26.cell? ⟨gb121, 1, none⟩ = some (.slice none 0 0) := (blk_cell BK121.out 1).trans rfl; have hfz27_0 := blk_frozen BK121.out 0; have hfz27_1 := blk_frozen BK121.out 1; obtain ⟨Ao28, co28, eo28⟩ := Kd.R_slice HO119.out; subst eo28))
    go_ret
    exact ⟨_, by first | rfl | (simp [errW_none, errW_some] <;> rfl) | (simp [*, errW_none, errW_some] <;> rfl), by first | exact Kd.R_nil _ _ _ _ _ | exact Kd.N_nil _ _ _ _ _ | exact Kd.V_nil _ _ _ _ _ | exact Kd.Q_nil _ _ _ _ _ | exact Kd.S_nil _ _ _ _ _, by repeat (first | (with_reducible first | exact HB.out | apply below_alloc | apply pw_below_drewN | apply below_drew1 | refine below_set ?_ GE121.out) | exact HB.out)⟩
end Go.Proofs.Ytipjnfljkknmgaa.Q
namespace Go.Proofs.Ytipjnfljkknmgaa.Q
open Go.RowKit Go.Proofs.YtipjnfljkknmgaaW.PrintWords Go.Proofs.YtipjnfljkknmgaaW.PrintLast Go.Proofs.YtipjnfljkknmgaaW.PrintMore
attribute [local go_sem] max2_int min2_int max_two min_two max_three min_three max_four min_four   -- for this text's walks alone
set_option linter.unusedVariables false
set_option linter.unusedSimpArgs false
def scrivenerlaw14_place.f (a0 : Int) : Option (Int × Int) := some (a0, 1)
set_option maxHeartbeats 8000000 in
set_option maxRecDepth 100000 in
theorem scrivenerlaw14_place.calls (a0 : Int) (r1 : Int) (r2 : Int) (w : World) (h : scrivenerlaw14_place.f a0 = some (r1, r2)) :
    Calls Try.prog 34 #[.int .i64 a0] w fun e w' => e = .returned (.agg #[.int .i64 r1, .int .u64 r2]) ∧ Below w.heap.size w w' := by
  have hu32 := Try.underlying32
  have HB := Aside0.mk (Below.refl w.heap.size w)
  have H : (some (a0, 1)) = some (r1, r2) := h
  clear h
  simp only [Option.some.injEq, Prod.mk.injEq] at H
  obtain ⟨rfl, rfl⟩ := H
  go_enter Try.func34, Try.ntmps34
  go_wp2_with (first | ((with_reducible refine gate_dst (N := 2) rfl ?_); refine box_event ?hg (N := 2) ?hd (cs := #[.int .i64 0, .int .u64 0]) (t := 32) ?hr ?_; (case hd => rfl); (case hg => rfl); (case hr => first | (go_simp; done) | (go_simp; rfl)); intro gb142 hg w2 hbox hb; have n0_ := Aside0.mk (below_step (Hb HB.out) hb); have n1_ := Aside0.mk (hbox); have n2_ := Aside0.mk ((by rw [hg]; exact (below_size (Hb HB.out)) : w.heap.size ≤ gb142)); have n3_ := Aside0.mk ((by rw [hg]; exact (below_size (Hb HB.out)) : w.heap.size ≤ gb142)); clear HB; have HB := n0_; have BK142 := n1_; have GW142 := n2_; have GE142 := n3_; clear n0_ n1_ n2_ n3_; clear hb hbox hg; have hcz3_0 : w2.cell? ⟨gb142, 0, none⟩ = some (.int .i64 0) := (blk_cell BK142.out 0).trans rfl; have hcz3_1 : w2.cell? ⟨gb142, 1, none⟩ = some (.int .u64 0) := (blk_cell BK142.out 1).trans rfl; have hfz3_0 := blk_frozen BK142.out 0; have hfz3_1 := blk_frozen BK142.out 1))
  refine bodyPost_ret (results_cell_row rfl _ _ gb142 32 #[.int .i64 a0, .int .u64 1] (0, 0) _ rfl (by (with_reducible repeat (first | refine blk_drewN ?_ _ | refine blk_drew ?_ | refine blk_alloc ?_ _)); refine blk_put (cs := #[.int .i64 a0, .int .u64 0]) ?_ 1 _ rfl; (with_reducible repeat (first | refine blk_drewN ?_ _ | refine blk_drew ?_ | refine blk_alloc ?_ _)); refine blk_put (cs := #[.int .i64 0, .int .u64 0]) ?_ 0 _ rfl; (with_reducible repeat (first | refine blk_drewN ?_ _ | refine blk_drew ?_ | refine blk_alloc ?_ _)); exact BK142.out) Try.underlying32 rfl (by kernel_rfl)) rfl ?_
  exact ⟨by first | rfl | (simp [errW_none, errW_some] <;> rfl) | (simp [*, errW_none, errW_some] <;> rfl), by repeat (first | (with_reducible first | exact HB.out | apply below_alloc | apply pw_below_drewN | apply below_drew1 | refine below_set ?_ GE142.out) | exact HB.out)⟩
end Go.Proofs.Ytipjnfljkknmgaa.Q
namespace Go.Proofs.Ytipjnfljkknmgaa.Q
open Go.RowKit Go.Proofs.YtipjnfljkknmgaaW.PrintWords Go.Proofs.YtipjnfljkknmgaaW.PrintLast Go.Proofs.YtipjnfljkknmgaaW.PrintMore
attribute [local go_sem] max2_int min2_int max_two min_two max_three min_three max_four min_four   -- for this text's walks alone
set_option linter.unusedVariables false
set_option linter.unusedSimpArgs false
def api_Place_47.f (k : Nat) (l0 : List (S32)) (a1_0 : Int) (a1_1 : Int) : Option (Bool) := (api_Place_43.f k l0 a1_0 a1_1).bind fun t128 => (some (decide (t128 ≥ 0)))
set_option maxHeartbeats 8000000 in
set_option maxRecDepth 100000 in
theorem api_Place_47.calls (k : Nat) (A0 : Option Addr) (c0 : Nat) (l0 : List (S32)) (a1_0 : Int) (a1_1 : Int) (r : Bool) (w : World) (hr0 : Kd.C k32 w A0 l0.length l0) (hc0 : l0.length ≤ c0) (h : api_Place_47.f k l0 a1_0 a1_1 = some r) :
    Calls Try.prog 47 #[.slice A0 l0.length c0, .agg #[.int .i64 a1_0, .int .u64 a1_1]] w fun e w' => e = .returned (.bool r) ∧ Below w.heap.size w w' := by
  have hu32 := Try.underlying32
  have HR0 := Aside0.mk hr0
  have HC0 := Aside0.mk hc0
  clear hr0 hc0
  have HB := Aside0.mk (Below.refl w.heap.size w)
  have H : ((api_Place_43.f k l0 a1_0 a1_1).bind fun t128 => (some (decide (t128 ≥ 0)))) = some r := h
  clear h
  replace H := Option.bind_eq_some_iff.mp H
  obtain ⟨t128, A30, H⟩ := H
  replace H : (some (decide (t128 ≥ 0))) = some r := H
  have A3 := Aside0.mk A30
  clear A30
  obtain rfl := Option.some.inj H
  go_enter Try.func47, Try.ntmps47
  go_wp2_with (first | ((with_reducible refine gate_dst (N := 3) rfl ?_); refine box_event ?hg (N := 3) ?hd (cs := #[.int .i64 a1_0, .int .u64 a1_1]) (t := 32) ?hr ?_; (case hd => rfl); (case hg => rfl); (case hr => first | (go_simp; done) | (go_simp; rfl)); intro gb127 hg w4 hbox hb; have n0_ := Aside0.mk (below_step (Hb HB.out) hb); have n1_ := Aside0.mk (hbox); have n2_ := Aside0.mk ((by rw [hg]; exact (below_size (Hb HB.out)) : w.heap.size ≤ gb127)); have n3_ := Aside0.mk ((by rw [hg]; exact (below_size (Hb HB.out)) : w.heap.size ≤ gb127)); clear HB; have HB := n0_; have BK127 := n1_; have GW127 := n2_; have GE127 := n3_; clear n0_ n1_ n2_ n3_; clear hb hbox hg; have hcz5_0 : w4.cell? ⟨gb127, 0, none⟩ = some (.int .i64 a1_0) := (blk_cell BK127.out 0).trans rfl; have hcz5_1 : w4.cell? ⟨gb127, 1, none⟩ = some (.int .u64 a1_1) := (blk_cell BK127.out 1).trans rfl; have hfz5_0 := blk_frozen BK127.out 0; have hfz5_1 := blk_frozen BK127.out 1) | ((with_reducible refine gate_callee (f := 43) rfl ?_); refine goesL_ (some 7) rfl rfl Try.func43 (by kernel_rfl) rfl #[.slice A0 l0.length c0, .agg #[.int .i64 a1_0, .int .u64 a1_1]] rfl (by (try simp only [List.map_toArray, List.map_cons, List.map_nil]); first | done | rfl | (simp only [List.length_drop, List.length_take]; rfl)) ?_; (with_reducible refine (api_Place_43.calls k _ _ l0 a1_0 a1_1 t128 _ ?side1 ?side2 A3.out).mono ?_); (case side1 => repeat (first | exact (Kd.C_below HR0.out HB.out) | (with_reducible refine Kd.C_alloc ?_ _) | (with_reducible refine Kd.C_drewN ?_ _) | (with_reducible refine Kd.C_drew ?_))); (case side2 => exact HC0.out); rintro e w6 ⟨rfl, hb⟩; refine ⟨_, rfl, ?_⟩; have n0_ := Aside0.mk (blk_below (Bb BK127.out) hb); have n1_ := Aside0.mk (below_step (Hb HB.out) hb); clear BK127; clear HB; have BK127 := n0_; have HB := n1_; clear n0_ n1_; (try clear hb); (try clear hb2); (try clear hk); (try clear hi)))
  go_ret
  exact ⟨by first | rfl | (simp [errW_none, errW_some] <;> rfl) | (simp [*, errW_none, errW_some] <;> rfl), by repeat (first | (with_reducible first | exact HB.out | apply below_alloc | apply pw_below_drewN | apply below_drew1 | refine below_set ?_ GE127.out) | exact HB.out)⟩
end Go.Proofs.Ytipjnfljkknmgaa.Q
namespace Go.Proofs.Ytipjnfljkknmgaa.Q
open Go.RowKit Go.Proofs.YtipjnfljkknmgaaW.PrintWords Go.Proofs.YtipjnfljkknmgaaW.PrintLast Go.Proofs.YtipjnfljkknmgaaW.PrintMore
attribute [local go_sem] max2_int min2_int max_two min_two max_three min_three max_four min_four   -- for this text's walks alone
set_option linter.unusedVariables false
set_option linter.unusedSimpArgs false
def api_Place_38.l0 : Nat → List (S32) → List (S32) → Int → List (S32) → Int → Int → Option (Int)
  | 0, _, _, _, _, _, _ => none
  | k + 1, x0, x1, x5, x8, x9, x10 => if x10 < x9 then (if 0 ≤ x10 then (if x10 < (x8.length : Int) then ((api_Place_47.f k x1 ((rd_T32 x8 x10).f0) ((rd_T32 x8 x10).f1)).bind fun t131 => (if t131 = true then (if x10 ≤ (x0.length : Int) then ((api_Place_47.f k (x0.take (x10 : Int).toNat) ((rd_T32 x8 x10).f0) ((rd_T32 x8 x10).f1)).bind fun t136 => (if t136 = true then (api_Place_38.l0 k x0 x1 x5 x8 x9 (wrap64 (x10 + 1))) else (api_Place_38.l0 k x0 x1 (wrap64 (x5 + 1)) x8 x9 (wrap64 (x10 + 1))))) else (none)) else (api_Place_38.l0 k x0 x1 x5 x8 x9 (wrap64 (x10 + 1))))) else (none)) else (none)) else (some x5)
def api_Place_38.f (k : Nat) (l0 : List (S32)) (l1 : List (S32)) : Option (Int) := api_Place_38.l0 k l0 l1 0 l0 (l0.length : Int) 0
def api_Place_38.T5 : Bool × List (List Nat × List Nat) := (true, [([], []), ([], []), ([0, 1], [0, 1]), ([2, 2], [2]), ([3], [3]), ([3], [3]), ([4, 5, 3], [3, 4, 5]), ([3], [3]), ([6, 7, 3, 3], [3, 6, 7]), ([8, 3], [3, 8]), ([3, 9], [3, 9])])
def api_Place_38.B5 : List Nat := [0, 0, 3, 7, 15, 15, 63, 15, 255, 511, 1023]
theorem api_Place_38.tab5 : rtab .any (opsOf Try.f38 5) = api_Place_38.T5 := by kernel_rfl
theorem api_Place_38.bits5 : waitsOk api_Place_38.T5.2 api_Place_38.B5 = true := by kernel_rfl
set_option maxHeartbeats 8000000 in
set_option maxRecDepth 100000 in
theorem api_Place_38.calls (k : Nat) (A0 : Option Addr) (c0 : Nat) (l0 : List (S32)) (A1 : Option Addr) (c1 : Nat) (l1 : List (S32)) (r : Int) (w : World) (hr0 : Kd.C k32 w A0 l0.length l0) (hc0 : l0.length ≤ c0) (hr1 : Kd.C k32 w A1 l1.length l1) (hc1 : l1.length ≤ c1) (h : api_Place_38.f k l0 l1 = some r) :
    Calls Try.prog 38 #[.slice A0 l0.length c0, .slice A1 l1.length c1] w fun e w' => e = .returned (.int .i64 r) ∧ Below w.heap.size w w' := by
  have hu32 := Try.underlying32
  have HR0 := Aside0.mk hr0
  have HC0 := Aside0.mk hc0
  clear hr0 hc0
  have HR1 := Aside0.mk hr1
  have HC1 := Aside0.mk hc1
  clear hr1 hc1
  have HB := Aside0.mk (Below.refl w.heap.size w)
  have H : (api_Place_38.l0 k l0 l1 0 l0 (l0.length : Int) 0) = some r := h
  clear h
  have H' := Aside0.mk H
  clear H
  go_enter Try.func38, Try.ntmps38
  go_wp2
  go_loopg [5, 10] k (fun kq v5 v10 w' => ∃ (x5_1 : Int) (x10_1 : Int), v5 = .int .i64 x5_1 ∧ v10 = .int .i64 x10_1 ∧ Aside0 (api_Place_38.l0 kq l0 l1 x5_1 l0 (l0.length : Int) x10_1 = some r) ∧ Aside0 (kq ≤ k) ∧ Aside0 (Below w.heap.size w w'))
  case atStart => exact ⟨(0), (0), (by first | rfl | (simp; done) | (simp [*]; done)), (by first | rfl | (simp; done) | (simp [*]; done)), H', ⟨Nat.le_refl _⟩, ⟨by repeat (first | (with_reducible first | exact HB.out | apply below_alloc | apply pw_below_drewN | apply below_drew1) | exact HB.out)⟩⟩
  case round =>
    clear H'
    try clear c1
    try clear p2
    obtain ⟨x5_1, x10_1, rfl, rfl, HA, HK1, HB⟩ := hrel
    cases gk with
    | zero => exact absurd HA.out (by simp [api_Place_38.l0])
    | succ k1 =>
      have H := HA.out
      clear HA
      simp only [api_Place_38.l0] at H
      by_cases c3 : x10_1 < (l0.length : Int)
      · rw [if_pos c3] at H
        have c3b0 : decide (x10_1 < (l0.length : Int)) = true := decide_eq_true c3
        clear c3
        by_cases c4 : 0 ≤ x10_1
        · rw [if_pos c4] at H
          have c4b0 : decide (0 ≤ x10_1) = true := decide_eq_true c4
          clear c4
          by_cases c5 : x10_1 < (l0.length : Int)
          · rw [if_pos c5] at H
            have c5b0 : decide (x10_1 < (l0.length : Int)) = true := decide_eq_true c5
            clear c5
            replace H := Option.bind_eq_some_iff.mp H
            obtain ⟨t131, A60, H⟩ := H
            replace H : (if t131 = true then (if x10_1 ≤ (l0.length : Int) then ((api_Place_47.f k1 (l0.take (x10_1 : Int).toNat) ((rd_T32 l0 x10_1).f0) ((rd_T32 l0 x10_1).f1)).bind fun t136 => (if t136 = true then (api_Place_38.l0 k1 l0 l1 x5_1 l0 (l0.length : Int) (wrap64 (x10_1 + 1))) else (api_Place_38.l0 k1 l0 l1 (wrap64 (x5_1 + 1)) l0 (l0.length : Int) (wrap64 (x10_1 + 1))))) else (none)) else (api_Place_38.l0 k1 l0 l1 x5_1 l0 (l0.length : Int) (wrap64 (x10_1 + 1)))) = some r := H
            have A6 := Aside0.mk A60
            clear A60
            by_cases c7 : t131 = true
            · subst c7
              rw [if_pos rfl] at H
              have c8b0 := eq_true (of_decide_eq_true (by first | (with_reducible assumption) | assumption) : 0 ≤ x10_1)
              by_cases c9 : x10_1 ≤ (l0.length : Int)
              · rw [if_pos c9] at H
                have c9b0 := eq_true c9
                have c9b1 : decide (x10_1 ≤ (l0.length : Int)) = true := decide_eq_true c9
                clear c9
                obtain ⟨y132, hy132⟩ : ∃ y_ : List (S32), y_ = (l0.take (x10_1 : Int).toNat) := ⟨_, rfl⟩
                replace H : ((api_Place_47.f k1 y132 ((rd_T32 l0 x10_1).f0) ((rd_T32 l0 x10_1).f1)).bind fun t136 => (if t136 = true then (api_Place_38.l0 k1 l0 l1 x5_1 l0 (l0.length : Int) (wrap64 (x10_1 + 1))) else (api_Place_38.l0 k1 l0 l1 (wrap64 (x5_1 + 1)) l0 (l0.length : Int) (wrap64 (x10_1 + 1))))) = some r := by first | (rw [hy132]; with_reducible exact H) | (have H2_ := (Option.bind_some _ _).symm.trans H; rw [hy132]; with_reducible exact H2_) | (have H2_ := (Option.bind_some _ _).symm.trans H; with_reducible exact H2_) | with_reducible exact H | (rw [hy132]; exact H) | exact H
                have Ny132 := Aside0.mk hy132
                clear hy132
                replace H := Option.bind_eq_some_iff.mp H
                obtain ⟨t136, A100, H⟩ := H
                replace H : (if t136 = true then (api_Place_38.l0 k1 l0 l1 x5_1 l0 (l0.length : Int) (wrap64 (x10_1 + 1))) else (api_Place_38.l0 k1 l0 l1 (wrap64 (x5_1 + 1)) l0 (l0.length : Int) (wrap64 (x10_1 + 1)))) = some r := H
                have A10 := Aside0.mk A100
                clear A100
                by_cases c11 : t136 = true
                · subst c11
                  rw [if_pos rfl] at H
                  have H' := Aside0.mk H
                  clear H
                  have p129 : 0 ≤ (x10_1 : Int) := of_decide_eq_true (by first | (with_reducible assumption) | assumption)
                  have q129 : x10_1 < (l0.length : Int) := of_decide_eq_true (by first | (with_reducible assumption) | assumption)
                  obtain ⟨ad129, e129, hx129_0, hx129_1⟩ := at_T32 HR0.out x10_1 p129 q129
                  cases e129
                  replace hx129_0 := (HB.out.cell (World.block_lt_of_cell? w _ hx129_0)).trans hx129_0
                  replace hx129_1 := (HB.out.cell (World.block_lt_of_cell? w _ hx129_1)).trans hx129_1
                  replace p129 := eq_true p129
                  replace q129 := eq_true q129
                  try go_wp2_with (first | ((with_reducible refine gate_dst (N := 7) rfl ?_); refine box_event ?hg (N := 7) ?hd (cs := #[.int .i64 0, .int .u64 0]) (t := 32) ?hr ?_; (case hd => rfl); (case hg => rfl); (case hr => first | (go_simp; done) | (go_simp; rfl)); intro gb130 hg w12 hbox hb; have n0_ := Aside0.mk (below_step (Hb HB.out) hb); have n1_ := Aside0.mk (hbox); have n2_ := Aside0.mk ((by rw [hg]; exact (below_size (Hb HB.out)) : w.heap.size ≤ gb130)); have n3_ := Aside0.mk ((by rw [hg]; exact (below_size (Hb HB.out)) : w.heap.size ≤ gb130)); clear HB; have HB := n0_; have BK130 := n1_; have GW130 := n2_; have GE130 := n3_; clear n0_ n1_ n2_ n3_; clear hb hbox hg; have hcz13_0 : w12.cell? ⟨gb130, 0, none⟩ = some (.int .i64 0) := (blk_cell BK130.out 0).trans rfl; have hcz13_1 : w12.cell? ⟨gb130, 1, none⟩ = some (.int .u64 0) := (blk_cell BK130.out 1).trans rfl; have hfz13_0 := blk_frozen BK130.out 0; have hfz13_1 := blk_frozen BK130.out 1))
                  have n0_ : Aside0 (((w12.setCell ⟨gb130, 0, none⟩ (.int .i64 ((rd_T32 l0 x10_1).f0))).setCell ⟨gb130, 1, none⟩ (.int .u64 ((rd_T32 l0 x10_1).f1))).heap[gb130]? = some (.cells #[.int .i64 ((rd_T32 l0 x10_1).f0), .int .u64 ((rd_T32 l0 x10_1).f1)] 32 (0, 0))) := ⟨by (with_reducible repeat (first | refine blk_drewN ?_ _ | refine blk_drew ?_ | refine blk_alloc ?_ _)); refine blk_put (cs := #[.int .i64 ((rd_T32 l0 x10_1).f0), .int .u64 0]) ?_ 1 _ rfl; (with_reducible repeat (first | refine blk_drewN ?_ _ | refine blk_drew ?_ | refine blk_alloc ?_ _)); refine blk_put (cs := #[.int .i64 0, .int .u64 0]) ?_ 0 _ rfl; (with_reducible repeat (first | refine blk_drewN ?_ _ | refine blk_drew ?_ | refine blk_alloc ?_ _)); exact BK130.out⟩
                  have n1_ : Aside0 (Below w.heap.size w ((w12.setCell ⟨gb130, 0, none⟩ (.int .i64 ((rd_T32 l0 x10_1).f0))).setCell ⟨gb130, 1, none⟩ (.int .u64 ((rd_T32 l0 x10_1).f1)))) := ⟨by repeat (first | (with_reducible first | exact HB.out | apply below_alloc | apply pw_below_drewN | apply below_drew1 | refine below_set ?_ GE130.out) | exact HB.out)⟩
                  (try clear BK130)
                  (try clear HB)
                  generalize ((w12.setCell ⟨gb130, 0, none⟩ (.int .i64 ((rd_T32 l0 x10_1).f0))).setCell ⟨gb130, 1, none⟩ (.int .u64 ((rd_T32 l0 x10_1).f1))) = w14 at n0_ n1_ ⊢
                  have BK130 := n0_
                  have HB := n1_
                  clear n0_ n1_
                  have n0_ := Aside0.mk (blk_drew BK130.out)
                  have n1_ := Aside0.mk (below_drew1 HB.out)
                  clear BK130
                  clear HB
                  have BK130 := n0_
                  have HB := n1_
                  clear n0_ n1_
                  refine start_ (n := 11) (S := fun w' => w'.cell? ⟨gb130, 0, none⟩ = some (.int .i64 ((rd_T32 l0 x10_1).f0)) ∧ w'.cell? ⟨gb130, 1, none⟩ = some (.int .u64 ((rd_T32 l0 x10_1).f1))) (ds := []) #[false, false, false, false, false, false, false, false, false, false, false] (by kernel_rfl) rfl rfl ⟨(blk_cell BK130.out 0).trans rfl, (blk_cell BK130.out 1).trans rfl⟩ (fun hHeld => ?_); refine with_tabW api_Place_38.tab5 api_Place_38.bits5 (fun HT_ HW_ => ?_)
                  generalize w14.drew = w15 at BK130 HB hHeld ⊢
                  refine pure_ (i := 0) (N := some 15) (v := ?_) (a' := ?_) #[true, false, false, false, false, false, false, false, false, false, false] rfl rfl (any_of HT_.out (by kernel_rfl)) (fun _ _ _ h => h) (Or.inl ⟨by rfl, ?_⟩) ?_ ?_
                  rotate_left
                  · intro w'
                    go_simp
                    with_reducible rfl
                  rotate_left
                  · simp only [Act.put, List.setIfInBounds_toArray, List.set_cons_zero, List.set_cons_succ, i64_w, i32_w]
                    rfl
                  refine take_ (i := 1) (N := some 16) (v := ?_) (a' := ?_) #[true, true, false, false, false, false, false, false, false, false, false] rfl rfl (take_ofW HT_.out HW_.out (by kernel_rfl)) (fun _ _ _ h => h) (Or.inl ⟨by rfl, ?_⟩) hHeld ?_ ?_
                  rotate_left
                  · rintro w' ⟨s0, s1⟩
                    go_simp
                    with_reducible rfl
                  rotate_left
                  · simp only [Act.put, List.setIfInBounds_toArray, List.set_cons_zero, List.set_cons_succ, i64_w, i32_w]
                    rfl
                  refine one_ (i := 2) (N := some 17) #[true, true, true, false, false, false, false, false, false, false, false] rfl rfl (one_of HT_.out (by kernel_rfl)) (by decide) (fun K hK => ?_)
                  refine goes_ Try.func47 (by kernel_rfl) rfl #[.slice A1 l1.length c1, .agg #[.int .i64 ((rd_T32 l0 x10_1).f0), .int .u64 ((rd_T32 l0 x10_1).f1)]] (by rfl) rfl rfl (by (try simp only [List.map_toArray, List.map_cons, List.map_nil]); first | done | rfl | (simp only [List.length_drop, List.length_take]; rfl)) ?_
                  with_reducible refine (api_Place_47.calls k1 _ _ l1 ((rd_T32 l0 x10_1).f0) ((rd_T32 l0 x10_1).f1) true _ ?side1 ?side2 A6.out).mono ?_
                  (case side1 => repeat (first | exact (Kd.C_below HR1.out HB.out) | (with_reducible refine Kd.C_alloc ?_ _) | (with_reducible refine Kd.C_drewN ?_ _) | (with_reducible refine Kd.C_drew ?_)))
                  (case side2 => exact HC1.out)
                  rintro e w16 ⟨rfl, hb⟩
                  refine ⟨_, rfl, ?_⟩
                  have n0_ := Aside0.mk (blk_below (Bb BK130.out) hb)
                  have n1_ := Aside0.mk (below_step (Hb HB.out) hb)
                  clear BK130
                  clear HB
                  have BK130 := n0_
                  have HB := n1_
                  clear n0_ n1_
                  (try clear hb)
                  (try clear hb2)
                  (try clear hk)
                  (try clear hi)
                  have q17 : (x10_1 : Int) ≤ ((l0.length : Int) : Int) := of_decide_eq_true (by first | (with_reducible assumption) | assumption)
                  obtain ⟨i017, hi017, _, hsz17, _⟩ := info_parts info32
                  have hroom17 : l0.length ≤ c0 := HC0.out
                  have hC17 : Kd.C k32 _ (some ad129) l0.length l0 := HR0.out
                  have hcut17 := cut_to (P := Try.prog) 23 32 .i64 Try.underlying23 hi017 (some ad129) l0.length c0 x10_1 (of_decide_eq_true (by first | (with_reducible assumption) | assumption)) q17 hroom17
                  have hr17 := Kd.C_take (m := (x10_1 : Int).toNat) hC17 (by omega)
                  have hy17 : y132.length = (x10_1 : Int).toNat := (by rw [Ny132.out, List.length_take]; omega)
                  rw [← Ny132.out] at hr17
                  rw [← hy17] at hcut17
                  have HR135 := Aside0.mk hr17
                  have HC135 := Aside0.mk (show y132.length ≤ c0 from by omega)
                  clear hr17 hC17 hroom17 hi017 hsz17
                  have KY17 := Aside0.mk hy17
                  clear hy17
                  replace q17 := eq_true q17
                  refine hK.out _ _ ⟨(blk_cell BK130.out 0).trans rfl, (blk_cell BK130.out 1).trans rfl⟩ (fun hHeld => ?_)
                  clear hK K
                  refine norm_ (a' := ?_) ?_ ?_
                  rotate_left
                  · show Act.put _ (some 17) _ = _
                    simp only [Act.put, List.setIfInBounds_toArray, List.set_cons_zero, List.set_cons_succ, i64_w, i32_w]
                    rfl
                  refine pure_ (i := 3) (N := some 18) (v := ?_) (a' := ?_) #[true, true, true, true, false, false, false, false, false, false, false] rfl rfl (any_of HT_.out (by kernel_rfl)) (fun _ _ _ h => h) (Or.inl ⟨by rfl, ?_⟩) ?_ ?_
                  rotate_left
                  · intro w'
                    go_simp
                    with_reducible rfl
                  rotate_left
                  · simp only [Act.put, List.setIfInBounds_toArray, List.set_cons_zero, List.set_cons_succ, i64_w, i32_w]
                    rfl
                  refine pure_ (i := 4) (N := some 19) (v := ?_) (a' := ?_) #[true, true, true, true, true, false, false, false, false, false, false] rfl rfl (any_of HT_.out (by kernel_rfl)) (fun _ _ _ h => h) (Or.inl ⟨by rfl, ?_⟩) ?_ ?_
                  rotate_left
                  · intro w'
                    go_simp
                    with_reducible rfl
                  rotate_left
                  · simp only [Act.put, List.setIfInBounds_toArray, List.set_cons_zero, List.set_cons_succ, i64_w, i32_w]
                    rfl
                  refine pure_ (i := 5) (N := some 20) (v := ?_) (a' := ?_) #[true, true, true, true, true, true, false, false, false, false, false] rfl rfl (any_of HT_.out (by kernel_rfl)) (fun _ _ _ h => h) (Or.inl ⟨by rfl, ?_⟩) ?_ ?_
                  rotate_left
                  · intro w'
                    go_simp
                    with_reducible rfl
                  rotate_left
                  · simp only [Act.put, List.setIfInBounds_toArray, List.set_cons_zero, List.set_cons_succ, i64_w, i32_w]
                    rfl
                  refine pure_ (i := 6) (N := some 21) (v := ?_) (a' := ?_) #[true, true, true, true, true, true, true, false, false, false, false] rfl rfl (any_of HT_.out (by kernel_rfl)) (fun _ _ _ h => h) (Or.inl ⟨by rfl, ?_⟩) ?_ ?_
                  rotate_left
                  · intro w'
                    go_simp
                    with_reducible rfl
                  rotate_left
                  · simp only [Act.put, List.setIfInBounds_toArray, List.set_cons_zero, List.set_cons_succ, i64_w, i32_w]
                    rfl
                  refine take_ (i := 7) (N := some 22) (v := ?_) (a' := ?_) #[true, true, true, true, true, true, true, true, false, false, false] rfl rfl (take_ofW HT_.out HW_.out (by kernel_rfl)) (fun _ _ _ h => h) (Or.inl ⟨by rfl, ?_⟩) hHeld ?_ ?_
                  rotate_left
                  · rintro w' ⟨s0, s1⟩
                    go_simp
                    with_reducible rfl
                  rotate_left
                  · simp only [Act.put, List.setIfInBounds_toArray, List.set_cons_zero, List.set_cons_succ, i64_w, i32_w]
                    rfl
                  refine one_ (i := 8) (N := some 23) #[true, true, true, true, true, true, true, true, true, false, false] rfl rfl (one_of HT_.out (by kernel_rfl)) (by decide) (fun K hK => ?_)
                  refine goes_ Try.func47 (by kernel_rfl) rfl #[.slice (some ad129) y132.length c0, .agg #[.int .i64 ((rd_T32 l0 x10_1).f0), .int .u64 ((rd_T32 l0 x10_1).f1)]] (by rfl) rfl rfl (by (try simp only [List.map_toArray, List.map_cons, List.map_nil]); first | done | rfl | (simp only [List.length_drop, List.length_take]; rfl)) ?_
                  with_reducible refine (api_Place_47.calls k1 _ _ y132 ((rd_T32 l0 x10_1).f0) ((rd_T32 l0 x10_1).f1) true _ ?side1 ?side2 A10.out).mono ?_
                  (case side1 => repeat (first | exact (Kd.C_below HR135.out HB.out) | (with_reducible refine Kd.C_alloc ?_ _) | (with_reducible refine Kd.C_drewN ?_ _) | (with_reducible refine Kd.C_drew ?_)))
                  (case side2 => exact HC135.out)
                  rintro e w18 ⟨rfl, hb⟩
                  refine ⟨_, rfl, ?_⟩
                  have n0_ := Aside0.mk (blk_below (Bb BK130.out) hb)
                  have n1_ := Aside0.mk (below_step (Hb HB.out) hb)
                  clear BK130
                  clear HB
                  have BK130 := n0_
                  have HB := n1_
                  clear n0_ n1_
                  (try clear hb)
                  (try clear hb2)
                  (try clear hk)
                  (try clear hi)
                  refine hK.out _ _ ⟨(blk_cell BK130.out 0).trans rfl, (blk_cell BK130.out 1).trans rfl⟩ (fun hHeld => ?_)
                  clear hK K
                  refine norm_ (a' := ?_) ?_ ?_
                  rotate_left
                  · show Act.put _ (some 23) _ = _
                    simp only [Act.put, List.setIfInBounds_toArray, List.set_cons_zero, List.set_cons_succ, i64_w, i32_w]
                    rfl
                  refine pure_ (i := 9) (N := some 24) (v := ?_) (a' := ?_) #[true, true, true, true, true, true, true, true, true, true, false] rfl rfl (any_of HT_.out (by kernel_rfl)) (fun _ _ _ h => h) (Or.inl ⟨by rfl, ?_⟩) ?_ ?_
                  rotate_left
                  · intro w'
                    go_simp
                    with_reducible rfl
                  rotate_left
                  · simp only [Act.put, List.setIfInBounds_toArray, List.set_cons_zero, List.set_cons_succ, i64_w, i32_w]
                    rfl
                  refine pure_ (i := 10) (N := some 25) (v := ?_) (a' := ?_) #[true, true, true, true, true, true, true, true, true, true, true] rfl rfl (any_of HT_.out (by kernel_rfl)) (fun _ _ _ h => h) (Or.inl ⟨by rfl, ?_⟩) ?_ ?_
                  rotate_left
                  · intro w'
                    go_simp
                    with_reducible rfl
                  rotate_left
                  · simp only [Act.put, List.setIfInBounds_toArray, List.set_cons_zero, List.set_cons_succ, i64_w, i32_w]
                    rfl
                  refine done_ (done_of HT_.out (by kernel_rfl)) ?_
                  try go_wp2
                  go_roundg k1
                  case measure => have := HK1.out; omega
                  case rel => exact ⟨(x5_1), (wrap64 (x10_1 + 1)), (by first | rfl | (simp; done) | (simp [*]; done)), (by first | rfl | (simp; done) | (simp [*]; done)), H', ⟨by have := HK1.out; omega⟩, ⟨by repeat (first | (with_reducible first | exact HB.out | apply below_alloc | apply pw_below_drewN | apply below_drew1 | refine below_set ?_ GE130.out) | exact HB.out)⟩⟩
                · replace c11 := Bool.eq_false_iff.mpr c11
                  subst c11
                  rw [if_neg (show ¬ (false = true) by decide)] at H
                  have H' := Aside0.mk H
                  clear H
                  have p129 : 0 ≤ (x10_1 : Int) := of_decide_eq_true (by first | (with_reducible assumption) | assumption)
                  have q129 : x10_1 < (l0.length : Int) := of_decide_eq_true (by first | (with_reducible assumption) | assumption)
                  obtain ⟨ad129, e129, hx129_0, hx129_1⟩ := at_T32 HR0.out x10_1 p129 q129
                  cases e129
                  replace hx129_0 := (HB.out.cell (World.block_lt_of_cell? w _ hx129_0)).trans hx129_0
                  replace hx129_1 := (HB.out.cell (World.block_lt_of_cell? w _ hx129_1)).trans hx129_1
                  replace p129 := eq_true p129
                  replace q129 := eq_true q129
                  try go_wp2_with (first | ((with_reducible refine gate_dst (N := 7) rfl ?_); refine box_event ?hg (N := 7) ?hd (cs := #[.int .i64 0, .int .u64 0]) (t := 32) ?hr ?_; (case hd => rfl); (case hg => rfl); (case hr => first | (go_simp; done) | (go_simp; rfl)); intro gb130 hg w19 hbox hb; have n0_ := Aside0.mk (below_step (Hb HB.out) hb); have n1_ := Aside0.mk (hbox); have n2_ := Aside0.mk ((by rw [hg]; exact (below_size (Hb HB.out)) : w.heap.size ≤ gb130)); have n3_ := Aside0.mk ((by rw [hg]; exact (below_size (Hb HB.out)) : w.heap.size ≤ gb130)); clear HB; have HB := n0_; have BK130 := n1_; have GW130 := n2_; have GE130 := n3_; clear n0_ n1_ n2_ n3_; clear hb hbox hg; have hcz20_0 : w19.cell? ⟨gb130, 0, none⟩ = some (.int .i64 0) := (blk_cell BK130.out 0).trans rfl; have hcz20_1 : w19.cell? ⟨gb130, 1, none⟩ = some (.int .u64 0) := (blk_cell BK130.out 1).trans rfl; have hfz20_0 := blk_frozen BK130.out 0; have hfz20_1 := blk_frozen BK130.out 1))
                  have n0_ : Aside0 (((w19.setCell ⟨gb130, 0, none⟩ (.int .i64 ((rd_T32 l0 x10_1).f0))).setCell ⟨gb130, 1, none⟩ (.int .u64 ((rd_T32 l0 x10_1).f1))).heap[gb130]? = some (.cells #[.int .i64 ((rd_T32 l0 x10_1).f0), .int .u64 ((rd_T32 l0 x10_1).f1)] 32 (0, 0))) := ⟨by (with_reducible repeat (first | refine blk_drewN ?_ _ | refine blk_drew ?_ | refine blk_alloc ?_ _)); refine blk_put (cs := #[.int .i64 ((rd_T32 l0 x10_1).f0), .int .u64 0]) ?_ 1 _ rfl; (with_reducible repeat (first | refine blk_drewN ?_ _ | refine blk_drew ?_ | refine blk_alloc ?_ _)); refine blk_put (cs := #[.int .i64 0, .int .u64 0]) ?_ 0 _ rfl; (with_reducible repeat (first | refine blk_drewN ?_ _ | refine blk_drew ?_ | refine blk_alloc ?_ _)); exact BK130.out⟩
                  have n1_ : Aside0 (Below w.heap.size w ((w19.setCell ⟨gb130, 0, none⟩ (.int .i64 ((rd_T32 l0 x10_1).f0))).setCell ⟨gb130, 1, none⟩ (.int .u64 ((rd_T32 l0 x10_1).f1)))) := ⟨by repeat (first | (with_reducible first | exact HB.out | apply below_alloc | apply pw_below_drewN | apply below_drew1 | refine below_set ?_ GE130.out) | exact HB.out)⟩
                  (try clear BK130)
                  (try clear HB)
                  generalize ((w19.setCell ⟨gb130, 0, none⟩ (.int .i64 ((rd_T32 l0 x10_1).f0))).setCell ⟨gb130, 1, none⟩ (.int .u64 ((rd_T32 l0 x10_1).f1))) = w21 at n0_ n1_ ⊢
                  have BK130 := n0_
                  have HB := n1_
                  clear n0_ n1_
                  have n0_ := Aside0.mk (blk_drew BK130.out)
                  have n1_ := Aside0.mk (below_drew1 HB.out)
                  clear BK130
                  clear HB
                  have BK130 := n0_
                  have HB := n1_
                  clear n0_ n1_
                  refine start_ (n := 11) (S := fun w' => w'.cell? ⟨gb130, 0, none⟩ = some (.int .i64 ((rd_T32 l0 x10_1).f0)) ∧ w'.cell? ⟨gb130, 1, none⟩ = some (.int .u64 ((rd_T32 l0 x10_1).f1))) (ds := []) #[false, false, false, false, false, false, false, false, false, false, false] (by kernel_rfl) rfl rfl ⟨(blk_cell BK130.out 0).trans rfl, (blk_cell BK130.out 1).trans rfl⟩ (fun hHeld => ?_); refine with_tabW api_Place_38.tab5 api_Place_38.bits5 (fun HT_ HW_ => ?_)
                  generalize w21.drew = w22 at BK130 HB hHeld ⊢
                  refine pure_ (i := 0) (N := some 15) (v := ?_) (a' := ?_) #[true, false, false, false, false, false, false, false, false, false, false] rfl rfl (any_of HT_.out (by kernel_rfl)) (fun _ _ _ h => h) (Or.inl ⟨by rfl, ?_⟩) ?_ ?_
                  rotate_left
                  · intro w'
                    go_simp
                    with_reducible rfl
                  rotate_left
                  · simp only [Act.put, List.setIfInBounds_toArray, List.set_cons_zero, List.set_cons_succ, i64_w, i32_w]
                    rfl
                  refine take_ (i := 1) (N := some 16) (v := ?_) (a' := ?_) #[true, true, false, false, false, false, false, false, false, false, false] rfl rfl (take_ofW HT_.out HW_.out (by kernel_rfl)) (fun _ _ _ h => h) (Or.inl ⟨by rfl, ?_⟩) hHeld ?_ ?_
                  rotate_left
                  · rintro w' ⟨s0, s1⟩
                    go_simp
                    with_reducible rfl
                  rotate_left
                  · simp only [Act.put, List.setIfInBounds_toArray, List.set_cons_zero, List.set_cons_succ, i64_w, i32_w]
                    rfl
                  refine one_ (i := 2) (N := some 17) #[true, true, true, false, false, false, false, false, false, false, false] rfl rfl (one_of HT_.out (by kernel_rfl)) (by decide) (fun K hK => ?_)
                  refine goes_ Try.func47 (by kernel_rfl) rfl #[.slice A1 l1.length c1, .agg #[.int .i64 ((rd_T32 l0 x10_1).f0), .int .u64 ((rd_T32 l0 x10_1).f1)]] (by rfl) rfl rfl (by (try simp only [List.map_toArray, List.map_cons, List.map_nil]); first | done | rfl | (simp only [List.length_drop, List.length_take]; rfl)) ?_
                  with_reducible refine (api_Place_47.calls k1 _ _ l1 ((rd_T32 l0 x10_1).f0) ((rd_T32 l0 x10_1).f1) true _ ?side1 ?side2 A6.out).mono ?_
                  (case side1 => repeat (first | exact (Kd.C_below HR1.out HB.out) | (with_reducible refine Kd.C_alloc ?_ _) | (with_reducible refine Kd.C_drewN ?_ _) | (with_reducible refine Kd.C_drew ?_)))
                  (case side2 => exact HC1.out)
                  rintro e w23 ⟨rfl, hb⟩
                  refine ⟨_, rfl, ?_⟩
                  have n0_ := Aside0.mk (blk_below (Bb BK130.out) hb)
                  have n1_ := Aside0.mk (below_step (Hb HB.out) hb)
                  clear BK130
                  clear HB
                  have BK130 := n0_
                  have HB := n1_
                  clear n0_ n1_
                  (try clear hb)
                  (try clear hb2)
                  (try clear hk)
                  (try clear hi)
                  have q24 : (x10_1 : Int) ≤ ((l0.length : Int) : Int) := of_decide_eq_true (by first | (with_reducible assumption) | assumption)
                  obtain ⟨i024, hi024, _, hsz24, _⟩ := info_parts info32
                  have hroom24 : l0.length ≤ c0 := HC0.out
                  have hC24 : Kd.C k32 _ (some ad129) l0.length l0 := HR0.out
                  have hcut24 := cut_to (P := Try.prog) 23 32 .i64 Try.underlying23 hi024 (some ad129) l0.length c0 x10_1 (of_decide_eq_true (by first | (with_reducible assumption) | assumption)) q24 hroom24
                  have hr24 := Kd.C_take (m := (x10_1 : Int).toNat) hC24 (by omega)
                  have hy24 : y132.length = (x10_1 : Int).toNat := (by rw [Ny132.out, List.length_take]; omega)
                  rw [← Ny132.out] at hr24
                  rw [← hy24] at hcut24
                  have HR135 := Aside0.mk hr24
                  have HC135 := Aside0.mk (show y132.length ≤ c0 from by omega)
                  clear hr24 hC24 hroom24 hi024 hsz24
                  have KY24 := Aside0.mk hy24
                  clear hy24
                  replace q24 := eq_true q24
                  refine hK.out _ _ ⟨(blk_cell BK130.out 0).trans rfl, (blk_cell BK130.out 1).trans rfl⟩ (fun hHeld => ?_)
                  clear hK K
                  refine norm_ (a' := ?_) ?_ ?_
                  rotate_left
                  · show Act.put _ (some 17) _ = _
                    simp only [Act.put, List.setIfInBounds_toArray, List.set_cons_zero, List.set_cons_succ, i64_w, i32_w]
                    rfl
                  refine pure_ (i := 3) (N := some 18) (v := ?_) (a' := ?_) #[true, true, true, true, false, false, false, false, false, false, false] rfl rfl (any_of HT_.out (by kernel_rfl)) (fun _ _ _ h => h) (Or.inl ⟨by rfl, ?_⟩) ?_ ?_
                  rotate_left
                  · intro w'
                    go_simp
                    with_reducible rfl
                  rotate_left
                  · simp only [Act.put, List.setIfInBounds_toArray, List.set_cons_zero, List.set_cons_succ, i64_w, i32_w]
                    rfl
                  refine pure_ (i := 4) (N := some 19) (v := ?_) (a' := ?_) #[true, true, true, true, true, false, false, false, false, false, false] rfl rfl (any_of HT_.out (by kernel_rfl)) (fun _ _ _ h => h) (Or.inl ⟨by rfl, ?_⟩) ?_ ?_
                  rotate_left
                  · intro w'
                    go_simp
                    with_reducible rfl
                  rotate_left
                  · simp only [Act.put, List.setIfInBounds_toArray, List.set_cons_zero, List.set_cons_succ, i64_w, i32_w]
                    rfl
                  refine pure_ (i := 5) (N := some 20) (v := ?_) (a' := ?_) #[true, true, true, true, true, true, false, false, false, false, false] rfl rfl (any_of HT_.out (by kernel_rfl)) (fun _ _ _ h => h) (Or.inl ⟨by rfl, ?_⟩) ?_ ?_
                  rotate_left
                  · intro w'
                    go_simp
                    with_reducible rfl
                  rotate_left
                  · simp only [Act.put, List.setIfInBounds_toArray, List.set_cons_zero, List.set_cons_succ, i64_w, i32_w]
                    rfl
                  refine pure_ (i := 6) (N := some 21) (v := ?_) (a' := ?_) #[true, true, true, true, true, true, true, false, false, false, false] rfl rfl (any_of HT_.out (by kernel_rfl)) (fun _ _ _ h => h) (Or.inl ⟨by rfl, ?_⟩) ?_ ?_
                  rotate_left
                  · intro w'
                    go_simp
                    with_reducible rfl
                  rotate_left
                  · simp only [Act.put, List.setIfInBounds_toArray, List.set_cons_zero, List.set_cons_succ, i64_w, i32_w]
                    rfl
                  refine take_ (i := 7) (N := some 22) (v := ?_) (a' := ?_) #[true, true, true, true, true, true, true, true, false, false, false] rfl rfl (take_ofW HT_.out HW_.out (by kernel_rfl)) (fun _ _ _ h => h) (Or.inl ⟨by rfl, ?_⟩) hHeld ?_ ?_
                  rotate_left
                  · rintro w' ⟨s0, s1⟩
                    go_simp
                    with_reducible rfl
                  rotate_left
                  · simp only [Act.put, List.setIfInBounds_toArray, List.set_cons_zero, List.set_cons_succ, i64_w, i32_w]
                    rfl
                  refine one_ (i := 8) (N := some 23) #[true, true, true, true, true, true, true, true, true, false, false] rfl rfl (one_of HT_.out (by kernel_rfl)) (by decide) (fun K hK => ?_)
                  refine goes_ Try.func47 (by kernel_rfl) rfl #[.slice (some ad129) y132.length c0, .agg #[.int .i64 ((rd_T32 l0 x10_1).f0), .int .u64 ((rd_T32 l0 x10_1).f1)]] (by rfl) rfl rfl (by (try simp only [List.map_toArray, List.map_cons, List.map_nil]); first | done | rfl | (simp only [List.length_drop, List.length_take]; rfl)) ?_
                  with_reducible refine (api_Place_47.calls k1 _ _ y132 ((rd_T32 l0 x10_1).f0) ((rd_T32 l0 x10_1).f1) false _ ?side1 ?side2 A10.out).mono ?_
                  (case side1 => repeat (first | exact (Kd.C_below HR135.out HB.out) | (with_reducible refine Kd.C_alloc ?_ _) | (with_reducible refine Kd.C_drewN ?_ _) | (with_reducible refine Kd.C_drew ?_)))
                  (case side2 => exact HC135.out)
                  rintro e w25 ⟨rfl, hb⟩
                  refine ⟨_, rfl, ?_⟩
                  have n0_ := Aside0.mk (blk_below (Bb BK130.out) hb)
                  have n1_ := Aside0.mk (below_step (Hb HB.out) hb)
                  clear BK130
                  clear HB
                  have BK130 := n0_
                  have HB := n1_
                  clear n0_ n1_
                  (try clear hb)
                  (try clear hb2)
                  (try clear hk)
                  (try clear hi)
                  refine hK.out _ _ ⟨(blk_cell BK130.out 0).trans rfl, (blk_cell BK130.out 1).trans rfl⟩ (fun hHeld => ?_)
                  clear hK K
                  refine norm_ (a' := ?_) ?_ ?_
                  rotate_left
                  · show Act.put _ (some 23) _ = _
                    simp only [Act.put, List.setIfInBounds_toArray, List.set_cons_zero, List.set_cons_succ, i64_w, i32_w]
                    rfl
                  refine pure_ (i := 9) (N := some 24) (v := ?_) (a' := ?_) #[true, true, true, true, true, true, true, true, true, true, false] rfl rfl (any_of HT_.out (by kernel_rfl)) (fun _ _ _ h => h) (Or.inl ⟨by rfl, ?_⟩) ?_ ?_
                  rotate_left
                  · intro w'
                    go_simp
                    with_reducible rfl
                  rotate_left
                  · simp only [Act.put, List.setIfInBounds_toArray, List.set_cons_zero, List.set_cons_succ, i64_w, i32_w]
                    rfl
                  refine pure_ (i := 10) (N := some 25) (v := ?_) (a' := ?_) #[true, true, true, true, true, true, true, true, true, true, true] rfl rfl (any_of HT_.out (by kernel_rfl)) (fun _ _ _ h => h) (Or.inl ⟨by rfl, ?_⟩) ?_ ?_
                  rotate_left
                  · intro w'
                    go_simp
                    with_reducible rfl
                  rotate_left
                  · simp only [Act.put, List.setIfInBounds_toArray, List.set_cons_zero, List.set_cons_succ, i64_w, i32_w]
                    rfl
                  refine done_ (done_of HT_.out (by kernel_rfl)) ?_
                  try go_wp2
                  go_roundg k1
                  case measure => have := HK1.out; omega
                  case rel => exact ⟨(wrap64 (x5_1 + 1)), (wrap64 (x10_1 + 1)), (by first | rfl | (simp; done) | (simp [*]; done)), (by first | rfl | (simp; done) | (simp [*]; done)), H', ⟨by have := HK1.out; omega⟩, ⟨by repeat (first | (with_reducible first | exact HB.out | apply below_alloc | apply pw_below_drewN | apply below_drew1 | refine below_set ?_ GE130.out) | exact HB.out)⟩⟩
              · rw [if_neg c9] at H
                exact absurd H (by simp)
            · replace c7 := Bool.eq_false_iff.mpr c7
              subst c7
              rw [if_neg (show ¬ (false = true) by decide)] at H
              have H' := Aside0.mk H
              clear H
              have p129 : 0 ≤ (x10_1 : Int) := of_decide_eq_true (by first | (with_reducible assumption) | assumption)
              have q129 : x10_1 < (l0.length : Int) := of_decide_eq_true (by first | (with_reducible assumption) | assumption)
              obtain ⟨ad129, e129, hx129_0, hx129_1⟩ := at_T32 HR0.out x10_1 p129 q129
              cases e129
              replace hx129_0 := (HB.out.cell (World.block_lt_of_cell? w _ hx129_0)).trans hx129_0
              replace hx129_1 := (HB.out.cell (World.block_lt_of_cell? w _ hx129_1)).trans hx129_1
              replace p129 := eq_true p129
              replace q129 := eq_true q129
              try go_wp2_with (first | ((with_reducible refine gate_dst (N := 7) rfl ?_); refine box_event ?hg (N := 7) ?hd (cs := #[.int .i64 0, .int .u64 0]) (t := 32) ?hr ?_; (case hd => rfl); (case hg => rfl); (case hr => first | (go_simp; done) | (go_simp; rfl)); intro gb130 hg w26 hbox hb; have n0_ := Aside0.mk (below_step (Hb HB.out) hb); have n1_ := Aside0.mk (hbox); have n2_ := Aside0.mk ((by rw [hg]; exact (below_size (Hb HB.out)) : w.heap.size ≤ gb130)); have n3_ := Aside0.mk ((by rw [hg]; exact (below_size (Hb HB.out)) : w.heap.size ≤ gb130)); clear HB; have HB := n0_; have BK130 := n1_; have GW130 := n2_; have GE130 := n3_; clear n0_ n1_ n2_ n3_; clear hb hbox hg; have hcz27_0 : w26.cell? ⟨gb130, 0, none⟩ = some (.int .i64 0) := (blk_cell BK130.out 0).trans rfl; have hcz27_1 : w26.cell? ⟨gb130, 1, none⟩ = some (.int .u64 0) := (blk_cell BK130.out 1).trans rfl; have hfz27_0 := blk_frozen BK130.out 0; have hfz27_1 := blk_frozen BK130.out 1))
              have n0_ : Aside0 (((w26.setCell ⟨gb130, 0, none⟩ (.int .i64 ((rd_T32 l0 x10_1).f0))).setCell ⟨gb130, 1, none⟩ (.int .u64 ((rd_T32 l0 x10_1).f1))).heap[gb130]? = some (.cells #[.int .i64 ((rd_T32 l0 x10_1).f0), .int .u64 ((rd_T32 l0 x10_1).f1)] 32 (0, 0))) := ⟨by (with_reducible repeat (first | refine blk_drewN ?_ _ | refine blk_drew ?_ | refine blk_alloc ?_ _)); refine blk_put (cs := #[.int .i64 ((rd_T32 l0 x10_1).f0), .int .u64 0]) ?_ 1 _ rfl; (with_reducible repeat (first | refine blk_drewN ?_ _ | refine blk_drew ?_ | refine blk_alloc ?_ _)); refine blk_put (cs := #[.int .i64 0, .int .u64 0]) ?_ 0 _ rfl; (with_reducible repeat (first | refine blk_drewN ?_ _ | refine blk_drew ?_ | refine blk_alloc ?_ _)); exact BK130.out⟩
              have n1_ : Aside0 (Below w.heap.size w ((w26.setCell ⟨gb130, 0, none⟩ (.int .i64 ((rd_T32 l0 x10_1).f0))).setCell ⟨gb130, 1, none⟩ (.int .u64 ((rd_T32 l0 x10_1).f1)))) := ⟨by repeat (first | (with_reducible first | exact HB.out | apply below_alloc | apply pw_below_drewN | apply below_drew1 | refine below_set ?_ GE130.out) | exact HB.out)⟩
              (try clear BK130)
              (try clear HB)
              generalize ((w26.setCell ⟨gb130, 0, none⟩ (.int .i64 ((rd_T32 l0 x10_1).f0))).setCell ⟨gb130, 1, none⟩ (.int .u64 ((rd_T32 l0 x10_1).f1))) = w28 at n0_ n1_ ⊢
              have BK130 := n0_
              have HB := n1_
              clear n0_ n1_
              have n0_ := Aside0.mk (blk_drew BK130.out)
              have n1_ := Aside0.mk (below_drew1 HB.out)
              clear BK130
              clear HB
              have BK130 := n0_
              have HB := n1_
              clear n0_ n1_
              refine start_ (n := 11) (S := fun w' => w'.cell? ⟨gb130, 0, none⟩ = some (.int .i64 ((rd_T32 l0 x10_1).f0)) ∧ w'.cell? ⟨gb130, 1, none⟩ = some (.int .u64 ((rd_T32 l0 x10_1).f1))) (ds := []) #[false, false, false, false, false, false, false, false, false, false, false] (by kernel_rfl) rfl rfl ⟨(blk_cell BK130.out 0).trans rfl, (blk_cell BK130.out 1).trans rfl⟩ (fun hHeld => ?_); refine with_tabW api_Place_38.tab5 api_Place_38.bits5 (fun HT_ HW_ => ?_)
              generalize w28.drew = w29 at BK130 HB hHeld ⊢
              refine pure_ (i := 0) (N := some 15) (v := ?_) (a' := ?_) #[true, false, false, false, false, false, false, false, false, false, false] rfl rfl (any_of HT_.out (by kernel_rfl)) (fun _ _ _ h => h) (Or.inl ⟨by rfl, ?_⟩) ?_ ?_
              rotate_left
              · intro w'
                go_simp
                with_reducible rfl
              rotate_left
              · simp only [Act.put, List.setIfInBounds_toArray, List.set_cons_zero, List.set_cons_succ, i64_w, i32_w]
                rfl
              refine take_ (i := 1) (N := some 16) (v := ?_) (a' := ?_) #[true, true, false, false, false, false, false, false, false, false, false] rfl rfl (take_ofW HT_.out HW_.out (by kernel_rfl)) (fun _ _ _ h => h) (Or.inl ⟨by rfl, ?_⟩) hHeld ?_ ?_
              rotate_left
              · rintro w' ⟨s0, s1⟩
                go_simp
                with_reducible rfl
              rotate_left
              · simp only [Act.put, List.setIfInBounds_toArray, List.set_cons_zero, List.set_cons_succ, i64_w, i32_w]
                rfl
              refine one_ (i := 2) (N := some 17) #[true, true, true, false, false, false, false, false, false, false, false] rfl rfl (one_of HT_.out (by kernel_rfl)) (by decide) (fun K hK => ?_)
              refine goes_ Try.func47 (by kernel_rfl) rfl #[.slice A1 l1.length c1, .agg #[.int .i64 ((rd_T32 l0 x10_1).f0), .int .u64 ((rd_T32 l0 x10_1).f1)]] (by rfl) rfl rfl (by (try simp only [List.map_toArray, List.map_cons, List.map_nil]); first | done | rfl | (simp only [List.length_drop, List.length_take]; rfl)) ?_
              with_reducible refine (api_Place_47.calls k1 _ _ l1 ((rd_T32 l0 x10_1).f0) ((rd_T32 l0 x10_1).f1) false _ ?side1 ?side2 A6.out).mono ?_
              (case side1 => repeat (first | exact (Kd.C_below HR1.out HB.out) | (with_reducible refine Kd.C_alloc ?_ _) | (with_reducible refine Kd.C_drewN ?_ _) | (with_reducible refine Kd.C_drew ?_)))
              (case side2 => exact HC1.out)
              rintro e w30 ⟨rfl, hb⟩
              refine ⟨_, rfl, ?_⟩
              have n0_ := Aside0.mk (blk_below (Bb BK130.out) hb)
              have n1_ := Aside0.mk (below_step (Hb HB.out) hb)
              clear BK130
              clear HB
              have BK130 := n0_
              have HB := n1_
              clear n0_ n1_
              (try clear hb)
              (try clear hb2)
              (try clear hk)
              (try clear hi)
              refine hK.out _ _ ⟨(blk_cell BK130.out 0).trans rfl, (blk_cell BK130.out 1).trans rfl⟩ (fun hHeld => ?_)
              clear hK K
              refine norm_ (a' := ?_) ?_ ?_
              rotate_left
              · show Act.put _ (some 17) _ = _
                simp only [Act.put, List.setIfInBounds_toArray, List.set_cons_zero, List.set_cons_succ, i64_w, i32_w]
                rfl
              refine pure_ (i := 3) (N := some 18) (v := ?_) (a' := ?_) #[true, true, true, true, false, false, false, false, false, false, false] rfl rfl (any_of HT_.out (by kernel_rfl)) (fun _ _ _ h => h) (Or.inl ⟨by rfl, ?_⟩) ?_ ?_
              rotate_left
              · intro w'
                go_simp
                with_reducible rfl
              rotate_left
              · simp only [Act.put, List.setIfInBounds_toArray, List.set_cons_zero, List.set_cons_succ, i64_w, i32_w]
                rfl
              refine pure_ (i := 4) (N := some 19) (v := undef) (a' := ?_) #[true, true, true, true, true, false, false, false, false, false, false] rfl rfl (any_of HT_.out (by kernel_rfl)) (fun _ _ _ h => h) (Or.inr ⟨by rfl, rfl⟩) ?_ ?_
              rotate_left
              · simp only [Act.put, List.setIfInBounds_toArray, List.set_cons_zero, List.set_cons_succ, i64_w, i32_w]
                rfl
              refine pure_ (i := 5) (N := some 20) (v := undef) (a' := ?_) #[true, true, true, true, true, true, false, false, false, false, false] rfl rfl (any_of HT_.out (by kernel_rfl)) (fun _ _ _ h => h) (Or.inr ⟨by rfl, rfl⟩) ?_ ?_
              rotate_left
              · simp only [Act.put, List.setIfInBounds_toArray, List.set_cons_zero, List.set_cons_succ, i64_w, i32_w]
                rfl
              refine pure_ (i := 6) (N := some 21) (v := undef) (a' := ?_) #[true, true, true, true, true, true, true, false, false, false, false] rfl rfl (any_of HT_.out (by kernel_rfl)) (fun _ _ _ h => h) (Or.inr ⟨by rfl, rfl⟩) ?_ ?_
              rotate_left
              · simp only [Act.put, List.setIfInBounds_toArray, List.set_cons_zero, List.set_cons_succ, i64_w, i32_w]
                rfl
              refine pure_ (i := 7) (N := some 22) (v := undef) (a' := ?_) #[true, true, true, true, true, true, true, true, false, false, false] rfl rfl (any_of HT_.out (by kernel_rfl)) (fun _ _ _ h => h) (Or.inr ⟨by rfl, rfl⟩) ?_ ?_
              rotate_left
              · simp only [Act.put, List.setIfInBounds_toArray, List.set_cons_zero, List.set_cons_succ, i64_w, i32_w]
                rfl
              refine pure_ (i := 8) (N := some 23) (v := undef) (a' := ?_) #[true, true, true, true, true, true, true, true, true, false, false] rfl rfl (any_of HT_.out (by kernel_rfl)) (fun _ _ _ h => h) (Or.inr ⟨by rfl, rfl⟩) ?_ ?_
              rotate_left
              · simp only [Act.put, List.setIfInBounds_toArray, List.set_cons_zero, List.set_cons_succ, i64_w, i32_w]
                rfl
              refine pure_ (i := 9) (N := some 24) (v := undef) (a' := ?_) #[true, true, true, true, true, true, true, true, true, true, false] rfl rfl (any_of HT_.out (by kernel_rfl)) (fun _ _ _ h => h) (Or.inr ⟨by rfl, rfl⟩) ?_ ?_
              rotate_left
              · simp only [Act.put, List.setIfInBounds_toArray, List.set_cons_zero, List.set_cons_succ, i64_w, i32_w]
                rfl
              refine pure_ (i := 10) (N := some 25) (v := ?_) (a' := ?_) #[true, true, true, true, true, true, true, true, true, true, true] rfl rfl (any_of HT_.out (by kernel_rfl)) (fun _ _ _ h => h) (Or.inl ⟨by rfl, ?_⟩) ?_ ?_
              rotate_left
              · intro w'
                go_simp
                with_reducible rfl
              rotate_left
              · simp only [Act.put, List.setIfInBounds_toArray, List.set_cons_zero, List.set_cons_succ, i64_w, i32_w]
                rfl
              refine done_ (done_of HT_.out (by kernel_rfl)) ?_
              try go_wp2
              go_roundg k1
              case measure => have := HK1.out; omega
              case rel => exact ⟨(x5_1), (wrap64 (x10_1 + 1)), (by first | rfl | (simp; done) | (simp [*]; done)), (by first | rfl | (simp; done) | (simp [*]; done)), H', ⟨by have := HK1.out; omega⟩, ⟨by repeat (first | (with_reducible first | exact HB.out | apply below_alloc | apply pw_below_drewN | apply below_drew1 | refine below_set ?_ GE130.out) | exact HB.out)⟩⟩
          · rw [if_neg c5] at H
            exact absurd H (by simp)
        · rw [if_neg c4] at H
          exact absurd H (by simp)
      · rw [if_neg c3] at H
        have c3b0 : decide (x10_1 < (l0.length : Int)) = false := decide_eq_false c3
        clear c3
        obtain rfl := Option.some.inj H
        go_wp2
        go_ret
        exact ⟨by first | rfl | (simp [errW_none, errW_some] <;> rfl) | (simp [*, errW_none, errW_some] <;> rfl), by repeat (first | (with_reducible first | exact HB.out | apply below_alloc | apply pw_below_drewN | apply below_drew1) | exact HB.out)⟩
end Go.Proofs.Ytipjnfljkknmgaa.Q
namespace Go.Proofs.Ytipjnfljkknmgaa.Q
open Go.RowKit Go.Proofs.YtipjnfljkknmgaaW.PrintWords Go.Proofs.YtipjnfljkknmgaaW.PrintLast Go.Proofs.YtipjnfljkknmgaaW.PrintMore
attribute [local go_sem] max2_int min2_int max_two min_two max_three min_three max_four min_four   -- for this text's walks alone
set_option linter.unusedVariables false
set_option linter.unusedSimpArgs false
def stripe_Missing.f (k : Nat) (l0 : List (S32)) (a1 : Int) (a2 : Int) (l3 : List (S32)) : Option (Bool) := if a1 < a2 then (some true) else ((api_Place_38.f k l0 l3).bind fun t137 => (some (decide ((wrap64 (a1 - a2)) < t137))))
set_option maxHeartbeats 8000000 in
set_option maxRecDepth 100000 in
theorem stripe_Missing.calls (k : Nat) (A0 : Option Addr) (c0 : Nat) (l0 : List (S32)) (a1 : Int) (a2 : Int) (A3 : Option Addr) (c3 : Nat) (l3 : List (S32)) (r : Bool) (w : World) (hr0 : Kd.C k32 w A0 l0.length l0) (hc0 : l0.length ≤ c0) (hr3 : Kd.C k32 w A3 l3.length l3) (hc3 : l3.length ≤ c3) (h : stripe_Missing.f k l0 a1 a2 l3 = some r) :
    Calls Try.prog 19 #[.slice A0 l0.length c0, .int .i64 a1, .int .i64 a2, .slice A3 l3.length c3] w fun e w' => e = .returned (.bool r) ∧ Below w.heap.size w w' := by
  have HR0 := Aside0.mk hr0
  have HC0 := Aside0.mk hc0
  clear hr0 hc0
  have HR3 := Aside0.mk hr3
  have HC3 := Aside0.mk hc3
  clear hr3 hc3
  have HB := Aside0.mk (Below.refl w.heap.size w)
  have H : (if a1 < a2 then (some true) else ((api_Place_38.f k l0 l3).bind fun t137 => (some (decide ((wrap64 (a1 - a2)) < t137))))) = some r := h
  clear h
  by_cases c5 : a1 < a2
  · rw [if_pos c5] at H
    have c5b0 : decide (a1 < a2) = true := decide_eq_true c5
    clear c5
    obtain rfl := Option.some.inj H
    go_enter Try.func19, Try.ntmps19
    go_wp2
    go_ret
    exact ⟨by first | rfl | (simp [errW_none, errW_some] <;> rfl) | (simp [*, errW_none, errW_some] <;> rfl), by repeat (first | (with_reducible first | exact HB.out | apply below_alloc | apply pw_below_drewN | apply below_drew1) | exact HB.out)⟩
  · rw [if_neg c5] at H
    have c5b0 : decide (a1 < a2) = false := decide_eq_false c5
    clear c5
    replace H := Option.bind_eq_some_iff.mp H
    obtain ⟨t137, A60, H⟩ := H
    replace H : (some (decide ((wrap64 (a1 - a2)) < t137))) = some r := H
    have A6 := Aside0.mk A60
    clear A60
    obtain rfl := Option.some.inj H
    go_enter Try.func19, Try.ntmps19
    go_wp2_with (first | (go_at_call 38; (with_reducible refine (api_Place_38.calls k _ _ l0 _ _ l3 t137 _ ?side1 ?side2 ?side3 ?side4 A6.out).mono ?_); (case side1 => repeat (first | exact HR0.out | (with_reducible refine Kd.C_alloc ?_ _) | (with_reducible refine Kd.C_drewN ?_ _) | (with_reducible refine Kd.C_drew ?_))); (case side2 => exact HC0.out); (case side3 => repeat (first | exact HR3.out | (with_reducible refine Kd.C_alloc ?_ _) | (with_reducible refine Kd.C_drewN ?_ _) | (with_reducible refine Kd.C_drew ?_))); (case side4 => exact HC3.out); rintro e w7 ⟨rfl, hb⟩; have n0_ := Aside0.mk (below_step (Hb HB.out) hb); clear HB; have HB := n0_; clear n0_; (try clear hb); (try clear hb2); (try clear hk); (try clear hi)))
    go_ret
    exact ⟨by first | rfl | (simp [errW_none, errW_some] <;> rfl) | (simp [*, errW_none, errW_some] <;> rfl), by repeat (first | (with_reducible first | exact HB.out | apply below_alloc | apply pw_below_drewN | apply below_drew1) | exact HB.out)⟩
end Go.Proofs.Ytipjnfljkknmgaa.Q
