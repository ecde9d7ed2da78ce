/- Part 3 of the proof of the row StripePicks: written for this claim by the session and by a program of its own. -/
import Derived.Test.YtipjnfljkknmgaaCStripePicksp2
namespace Go.Proofs.Ytipjnfljkknmgaa.Q
open Go.RowKit Go.Proofs.YtipjnfljkknmgaaW.PrintWords Go.Proofs.YtipjnfljkknmgaaW.PrintLast Go.Proofs.YtipjnfljkknmgaaW.PrintMore
attribute [local go_sem] max2_int min2_int max_two min_two max_three min_three max_four min_four   -- for this text's walks alone
set_option linter.unusedVariables false
set_option linter.unusedSimpArgs false
attribute [local go_sem high] eqA32
mutual
def scrivenerref14_Swap.l0 : Nat → Int → Int → Int → List (S32) → Int → Int → Int → Int → Option (Int × (List (S32)) × Bool)
  | 0, _, _, _, _, _, _, _, _ => none
  | k + 1, x8, x9, x319000, x319001, x320000, x320001, x321000, x321001 => if x9 ≥ 0 then (if 0 ≤ x9 then (if x9 < (x319001.length : Int) then (if (((rd_T32 x319001 x9).f0) == x320000 && (((rd_T32 x319001 x9).f1) == x320001)) = true then (scrivenerref14_Swap.l0 k x9 (wrap64 (x9 - 1)) x319000 x319001 x320000 x320001 x321000 x321001) else (scrivenerref14_Swap.l0 k x8 (wrap64 (x9 - 1)) x319000 x319001 x320000 x320001 x321000 x321001)) else (none)) else (none)) else (if x8 < 0 then (some (0, ([] : List (S32)), false)) else ((some (([] : List (S32)) : List (S32))).bind fun y323 => (if y323.length + x319001.length < 8796093022208 then (scrivenerref14_Swap.l1 k x8 0 x321000 x321001 x319000 (y323 ++ x319001)) else (none))))
def scrivenerref14_Swap.l1 : Nat → Int → Int → Int → Int → Int → List (S32) → Option (Int × (List (S32)) × Bool)
  | 0, _, _, _, _, _, _ => none
  | k + 1, x8, x11, x321000, x321001, x330000, x330001 => if x11 < (x330001.length : Int) then (if x11 = x8 then (scrivenerref14_Swap.l1 k x8 (wrap64 (x11 + 1)) x321000 x321001 x330000 x330001) else (if 0 ≤ x11 then (if ((rd_T32 x330001 x11).f0) = x321000 then (some (0, ([] : List (S32)), false)) else (scrivenerref14_Swap.l1 k x8 (wrap64 (x11 + 1)) x321000 x321001 x330000 x330001)) else (none))) else (if 0 ≤ x8 then (if x8 < (x330001.length : Int) then (some (x330000, (x330001.set (x8 : Int).toNat (⟨x321000, x321001⟩ : S32)), true)) else (none)) else (none))
end
def scrivenerref14_Swap.f (k : Nat) (a0_0 : Int) (l0_1 : List (S32)) (a1_0 : Int) (a1_1 : Int) (a2_0 : Int) (a2_1 : Int) : Option (Int × (List (S32)) × Bool) := scrivenerref14_Swap.l0 k (-1) (wrap64 ((l0_1.length : Int) - 1)) a0_0 l0_1 a1_0 a1_1 a2_0 a2_1
def scrivenerref14_Swap.T9 : Bool × List (List Nat × List Nat) := (true, [([], []), ([0], [0]), ([], []), ([], []), ([3], [3]), ([2, 4], [2, 4]), ([1, 5], [1, 5]), ([], []), ([7, 6, 5, 0, 1, 2, 3, 4, 5, 6, 7], [6, 7])])
def scrivenerref14_Swap.B9 : List Nat := [0, 1, 0, 0, 8, 28, 63, 0, 255]
theorem scrivenerref14_Swap.tab9 : rtab .any (opsOf Try.f26 9) = scrivenerref14_Swap.T9 := by kernel_rfl
theorem scrivenerref14_Swap.bits9 : waitsOk scrivenerref14_Swap.T9.2 scrivenerref14_Swap.B9 = true := by kernel_rfl
def scrivenerref14_Swap.T13 : Bool × List (List Nat × List Nat) := (true, [([], []), ([], []), ([0, 1], [0, 1]), ([2], [2]), ([3], [3]), ([4, 3], [3, 4]), ([3], [3]), ([5, 6, 3], [3, 5, 6]), ([7, 3], [3, 7]), ([8, 3], [3, 8]), ([3], [3]), ([10, 3], [3, 10]), ([9, 11, 3], [3, 9, 11]), ([3, 12], [3, 12])])
def scrivenerref14_Swap.B13 : List Nat := [0, 0, 3, 7, 15, 31, 15, 127, 255, 511, 15, 1039, 4095, 8191]
theorem scrivenerref14_Swap.tab13 : rtab .any (opsOf Try.f26 13) = scrivenerref14_Swap.T13 := by kernel_rfl
theorem scrivenerref14_Swap.bits13 : waitsOk scrivenerref14_Swap.T13.2 scrivenerref14_Swap.B13 = true := by kernel_rfl
set_option maxHeartbeats 8000000 in
set_option maxRecDepth 100000 in
theorem scrivenerref14_Swap.calls (k : Nat) (a0_0 : Int) (A0_1 : Option Addr) (c0_1 : Nat) (l0_1 : List (S32)) (a1_0 : Int) (a1_1 : Int) (a2_0 : Int) (a2_1 : Int) (r1 : Int) (r2 : List (S32)) (r3 : Bool) (w : World) (hr0_1 : Kd.C k32 w A0_1 l0_1.length l0_1) (hc0_1 : l0_1.length ≤ c0_1) (h : scrivenerref14_Swap.f k a0_0 l0_1 a1_0 a1_1 a2_0 a2_1 = some (r1, r2, r3)) :
    Calls Try.prog 26 #[.agg #[.int .u64 a0_0, .slice A0_1 l0_1.length c0_1], .agg #[.int .i64 a1_0, .int .u64 a1_1], .agg #[.int .i64 a2_0, .int .u64 a2_1]] w fun e w' => ∃ v1_ : Value, e = .returned (.tuple #[.agg #[.int .u64 r1, v1_], .bool r3]) ∧ Kd.R k32 32 w' w.heap.size (fun _ => True) v1_ r2 ∧ Below w.heap.size w w' := by
  have hu25 := Try.underlying25
  have hu32 := Try.underlying32
  have HR0_1 := Aside0.mk hr0_1
  have HC0_1 := Aside0.mk hc0_1
  clear hr0_1 hc0_1
  have HB := Aside0.mk (Below.refl w.heap.size w)
  have H : (scrivenerref14_Swap.l0 k (-1) (wrap64 ((l0_1.length : Int) - 1)) a0_0 l0_1 a1_0 a1_1 a2_0 a2_1) = some (r1, r2, r3) := h
  clear h
  have H' := Aside0.mk H
  clear H
  go_enter Try.func26, Try.ntmps26
  go_wp2_with (first | ((with_reducible refine gate_dst (N := 3) rfl ?_); refine box_event ?hg (N := 3) ?hd (cs := #[.int .u64 a0_0, .slice A0_1 l0_1.length c0_1]) (t := 25) ?hr ?_; (case hd => rfl); (case hg => rfl); (case hr => first | (go_simp; done) | (go_simp; rfl)); intro gb318 hg w4 hbox hb; have n0_ := Aside0.mk (below_step (Hb HB.out) hb); have n1_ := Aside0.mk (hbox); have n2_ := Aside0.mk ((by rw [hg]; exact (below_size (Hb HB.out)) : w.heap.size ≤ gb318)); have n3_ := Aside0.mk ((by rw [hg]; exact (below_size (Hb HB.out)) : w.heap.size ≤ gb318)); clear HB; have HB := n0_; have BK318 := n1_; have GW318 := n2_; have GE318 := n3_; clear n0_ n1_ n2_ n3_; clear hb hbox hg) | ((with_reducible refine gate_dst (N := 4) rfl ?_); refine box_event ?hg (N := 4) ?hd (cs := #[.int .i64 a1_0, .int .u64 a1_1]) (t := 32) ?hr ?_; (case hd => rfl); (case hg => rfl); (case hr => first | (go_simp; done) | (go_simp; rfl)); intro gb319 hg w5 hbox hb; have n0_ := Aside0.mk (blk_below (Bb BK318.out) hb); have n1_ := Aside0.mk (below_step (Hb HB.out) hb); have n2_ := Aside0.mk (hbox); have n3_ := Aside0.mk ((by rw [hg]; exact (below_size (Hb HB.out)) : w.heap.size ≤ gb319)); have n4_ := Aside0.mk ((by rw [hg]; exact (below_size (Hb HB.out)) : w.heap.size ≤ gb319)); have n5_ := Aside0.mk ((by rw [hg]; exact Nat.ne_of_lt (blk_lt (g := gb318) (o := .cells #[.int .u64 a0_0, .slice A0_1 l0_1.length c0_1] 25 (0, 0)) (Bb BK318.out)) : gb318 ≠ gb319)); have n6_ := Aside0.mk ((by rw [hg]; exact Nat.ne_of_gt (blk_lt (g := gb318) (o := .cells #[.int .u64 a0_0, .slice A0_1 l0_1.length c0_1] 25 (0, 0)) (Bb BK318.out)) : gb319 ≠ gb318)); clear BK318; clear HB; have BK318 := n0_; have HB := n1_; have BK319 := n2_; have GW319 := n3_; have GE319 := n4_; have NB318_319 := n5_; have NB319_318 := n6_; clear n0_ n1_ n2_ n3_ n4_ n5_ n6_; clear hb hbox hg) | ((with_reducible refine gate_dst (N := 5) rfl ?_); refine box_event ?hg (N := 5) ?hd (cs := #[.int .i64 a2_0, .int .u64 a2_1]) (t := 32) ?hr ?_; (case hd => rfl); (case hg => rfl); (case hr => first | (go_simp; done) | (go_simp; rfl)); intro gb320 hg w6 hbox hb; have n0_ := Aside0.mk (blk_below (Bb BK318.out) hb); have n1_ := Aside0.mk (blk_below (Bb BK319.out) hb); have n2_ := Aside0.mk (below_step (Hb HB.out) hb); have n3_ := Aside0.mk (hbox); have n4_ := Aside0.mk ((by rw [hg]; exact (below_size (Hb HB.out)) : w.heap.size ≤ gb320)); have n5_ := Aside0.mk ((by rw [hg]; exact (below_size (Hb HB.out)) : w.heap.size ≤ gb320)); have n6_ := Aside0.mk ((by rw [hg]; exact Nat.ne_of_lt (blk_lt (g := gb318) (o := .cells #[.int .u64 a0_0, .slice A0_1 l0_1.length c0_1] 25 (0, 0)) (Bb BK318.out)) : gb318 ≠ gb320)); have n7_ := Aside0.mk ((by rw [hg]; exact Nat.ne_of_gt (blk_lt (g := gb318) (o := .cells #[.int .u64 a0_0, .slice A0_1 l0_1.length c0_1] 25 (0, 0)) (Bb BK318.out)) : gb320 ≠ gb318)); have n8_ := Aside0.mk ((by rw [hg]; exact Nat.ne_of_lt (blk_lt (g := gb319) (o := .cells #[.int .i64 a1_0, .int .u64 a1_1] 32 (0, 0)) (Bb BK319.out)) : gb319 ≠ gb320)); have n9_ := Aside0.mk ((by rw [hg]; exact Nat.ne_of_gt (blk_lt (g := gb319) (o := .cells #[.int .i64 a1_0, .int .u64 a1_1] 32 (0, 0)) (Bb BK319.out)) : gb320 ≠ gb319)); clear BK318; clear BK319; clear HB; have BK318 := n0_; have BK319 := n1_; have HB := n2_; have BK320 := n3_; have GW320 := n4_; have GE320 := n5_; have NB318_320 := n6_; have NB320_318 := n7_; have NB319_320 := n8_; have NB320_319 := n9_; clear n0_ n1_ n2_ n3_ n4_ n5_ n6_ n7_ n8_ n9_; clear hb hbox hg) | ((with_reducible refine gate_dst (N := 6) rfl ?_); refine box_event ?hg (N := 6) ?hd (cs := #[.int .u64 0, .slice none 0 0]) (t := 25) ?hr ?_; (case hd => rfl); (case hg => rfl); (case hr => first | (go_simp; done) | (go_simp; rfl)); intro gb321 hg w7 hbox hb; have n0_ := Aside0.mk (blk_below (Bb BK318.out) hb); have n1_ := Aside0.mk (blk_below (Bb BK319.out) hb); have n2_ := Aside0.mk (blk_below (Bb BK320.out) hb); have n3_ := Aside0.mk (below_step (Hb HB.out) hb); have n4_ := Aside0.mk (hbox); have n5_ := Aside0.mk ((by rw [hg]; exact (below_size (Hb HB.out)) : w.heap.size ≤ gb321)); have n6_ := Aside0.mk ((by rw [hg]; exact (below_size (Hb HB.out)) : w.heap.size ≤ gb321)); have n7_ := Aside0.mk ((by rw [hg]; exact Nat.ne_of_lt (blk_lt (g := gb318) (o := .cells #[.int .u64 a0_0, .slice A0_1 l0_1.length c0_1] 25 (0, 0)) (Bb BK318.out)) : gb318 ≠ gb321)); have n8_ := Aside0.mk ((by rw [hg]; exact Nat.ne_of_gt (blk_lt (g := gb318) (o := .cells #[.int .u64 a0_0, .slice A0_1 l0_1.length c0_1] 25 (0, 0)) (Bb BK318.out)) : gb321 ≠ gb318)); have n9_ := Aside0.mk ((by rw [hg]; exact Nat.ne_of_lt (blk_lt (g := gb319) (o := .cells #[.int .i64 a1_0, .int .u64 a1_1] 32 (0, 0)) (Bb BK319.out)) : gb319 ≠ gb321)); have n10_ := Aside0.mk ((by rw [hg]; exact Nat.ne_of_gt (blk_lt (g := gb319) (o := .cells #[.int .i64 a1_0, .int .u64 a1_1] 32 (0, 0)) (Bb BK319.out)) : gb321 ≠ gb319)); have n11_ := Aside0.mk ((by rw [hg]; exact Nat.ne_of_lt (blk_lt (g := gb320) (o := .cells #[.int .i64 a2_0, .int .u64 a2_1] 32 (0, 0)) (Bb BK320.out)) : gb320 ≠ gb321)); have n12_ := Aside0.mk ((by rw [hg]; exact Nat.ne_of_gt (blk_lt (g := gb320) (o := .cells #[.int .i64 a2_0, .int .u64 a2_1] 32 (0, 0)) (Bb BK320.out)) : gb321 ≠ gb320)); clear BK318; clear BK319; clear BK320; clear HB; have BK318 := n0_; have BK319 := n1_; have BK320 := n2_; have HB := n3_; have BK321 := n4_; have GW321 := n5_; have GE321 := n6_; have NB318_321 := n7_; have NB321_318 := n8_; have NB319_321 := n9_; have NB321_319 := n10_; have NB320_321 := n11_; have NB321_320 := n12_; clear n0_ n1_ n2_ n3_ n4_ n5_ n6_ n7_ n8_ n9_ n10_ n11_ n12_; clear hb hbox hg; have hnb8 := NB318_319.out; have hnc8 := NB319_318.out; have hnb9 := NB318_320.out; have hnc9 := NB320_318.out; have hnb10 := NB318_321.out; have hnc10 := NB321_318.out; have hcz11_0 : w7.cell? ⟨gb318, 0, none⟩ = some (.int .u64 a0_0) := (blk_cell BK318.out 0).trans rfl; have hcz11_1 : w7.cell? ⟨gb318, 1, none⟩ = some (.slice A0_1 l0_1.length c0_1) := (blk_cell BK318.out 1).trans rfl; have hfz11_0 := blk_frozen BK318.out 0; have hfz11_1 := blk_frozen BK318.out 1))
  go_loopg [8, 9] k (fun kq v8 v9 w' => ∃ (x8_1 : Int) (x9_1 : Int), v8 = .int .i64 x8_1 ∧ v9 = .int .i64 x9_1 ∧ Aside0 (scrivenerref14_Swap.l0 kq x8_1 x9_1 a0_0 l0_1 a1_0 a1_1 a2_0 a2_1 = some (r1, r2, r3)) ∧ Aside0 (kq ≤ k) ∧ Aside0 (w'.heap[gb318]? = some (.cells #[.int .u64 a0_0, (.slice A0_1 l0_1.length c0_1)] 25 (0, 0))) ∧ Aside0 (w'.heap[gb319]? = some (.cells #[.int .i64 a1_0, .int .u64 a1_1] 32 (0, 0))) ∧ Aside0 (w'.heap[gb320]? = some (.cells #[.int .i64 a2_0, .int .u64 a2_1] 32 (0, 0))) ∧ Aside0 (w'.heap[gb321]? = some (.cells #[.int .u64 0, (.slice none 0 0)] 25 (0, 0))) ∧ Aside0 (Below w.heap.size w w'))
  case atStart => exact ⟨((-1)), (wrap64 ((l0_1.length : Int) - 1)), (by first | rfl | (simp; done) | (simp [*]; done)), (by first | rfl | (simp; done) | (simp [*]; done)), H', ⟨Nat.le_refl _⟩, ⟨by (with_reducible repeat (first | refine blk_drewN ?_ _ | refine blk_drew ?_ | refine blk_alloc ?_ _)); exact BK318.out⟩, ⟨by (with_reducible repeat (first | refine blk_drewN ?_ _ | refine blk_drew ?_ | refine blk_alloc ?_ _)); exact BK319.out⟩, ⟨by (with_reducible repeat (first | refine blk_drewN ?_ _ | refine blk_drew ?_ | refine blk_alloc ?_ _)); exact BK320.out⟩, ⟨by (with_reducible repeat (first | refine blk_drewN ?_ _ | refine blk_drew ?_ | refine blk_alloc ?_ _)); exact BK321.out⟩, ⟨by repeat (first | (with_reducible first | exact HB.out | apply below_alloc | apply pw_below_drewN | apply below_drew1 | refine below_set ?_ GE318.out | refine below_set ?_ GE319.out | refine below_set ?_ GE320.out | refine below_set ?_ GE321.out) | exact HB.out)⟩⟩
  case round =>
    clear H'
    try clear c1
    try clear c2
    try clear p2
    try clear p6
    try clear c8
    try clear c9
    try clear c10
    try clear hcz11_0
    try clear hcz11_1
    try clear hfz11_0
    try clear hfz11_1
    obtain ⟨x8_1, x9_1, rfl, rfl, HA, HK1, BK318, BK319, BK320, BK321, HB⟩ := hrel
    cases gk with
    | zero => exact absurd HA.out (by simp [scrivenerref14_Swap.l0])
    | succ k1 =>
      have H := HA.out
      clear HA
      simp only [scrivenerref14_Swap.l0] at H
      by_cases c12 : x9_1 ≥ 0
      · rw [if_pos c12] at H
        have c12b0 : decide (0 ≤ x9_1) = true := decide_eq_true c12
        clear c12
        by_cases c13 : 0 ≤ x9_1
        · rw [if_pos c13] at H
          have c13b0 : decide (0 ≤ x9_1) = true := decide_eq_true c13
          clear c13
          by_cases c14 : x9_1 < (l0_1.length : Int)
          · rw [if_pos c14] at H
            have c14b0 : decide (x9_1 < (l0_1.length : Int)) = true := decide_eq_true c14
            clear c14
            by_cases c15 : (((rd_T32 l0_1 x9_1).f0) == a1_0 && (((rd_T32 l0_1 x9_1).f1) == a1_1)) = true
            · rw [if_pos c15] at H
              have c15b0 : (((rd_T32 l0_1 x9_1).f0) == a1_0 && (((rd_T32 l0_1 x9_1).f1) == a1_1)) = true := c15
              (try (have c15b1 : decide (((rd_T32 l0_1 x9_1).f0) = a1_0 && (((rd_T32 l0_1 x9_1).f1) == a1_1)) = true := by simpa using c15))
              (try (have c15b2 : (((rd_T32 l0_1 x9_1).f0) == a1_0 && (((rd_T32 l0_1 x9_1).f1) == a1_1)) = true := by simpa using c15))
              clear c15
              have H' := Aside0.mk H
              clear H
              try go_wp2
              have n0_ := Aside0.mk (blk_drew BK318.out)
              have n1_ := Aside0.mk (blk_drew BK319.out)
              have n2_ := Aside0.mk (blk_drew BK320.out)
              have n3_ := Aside0.mk (blk_drew BK321.out)
              have n4_ := Aside0.mk (below_drew1 HB.out)
              clear BK318
              clear BK319
              clear BK320
              clear BK321
              clear HB
              have BK318 := n0_
              have BK319 := n1_
              have BK320 := n2_
              have BK321 := n3_
              have HB := n4_
              clear n0_ n1_ n2_ n3_ n4_
              have p322 : 0 ≤ (x9_1 : Int) := of_decide_eq_true (by first | (with_reducible assumption) | assumption)
              have q322 : x9_1 < (l0_1.length : Int) := of_decide_eq_true (by first | (with_reducible assumption) | assumption)
              obtain ⟨ad322, e322, hx322_0, hx322_1⟩ := at_T32 HR0_1.out x9_1 p322 q322
              have hw322_1 := hx322_1
              have hw322_0 := hx322_0
              cases e322
              replace hx322_0 := (HB.out.cell (World.block_lt_of_cell? w _ hx322_0)).trans hx322_0
              replace hx322_1 := (HB.out.cell (World.block_lt_of_cell? w _ hx322_1)).trans hx322_1
              replace p322 := eq_true p322
              replace q322 := eq_true q322
              refine start_ (n := 7) (S := fun w' => w'.cell? ⟨gb318, 0, none⟩ = some (.int .u64 a0_0) ∧ w'.cell? ⟨gb318, 1, none⟩ = some (.slice (some ad322) l0_1.length c0_1) ∧ w'.cell? ⟨gb319, 0, none⟩ = some (.int .i64 a1_0) ∧ w'.cell? ⟨gb319, 1, none⟩ = some (.int .u64 a1_1) ∧ w'.cell? (ad322.add ((x9_1).toNat * 2)) = some (.int .i64 ((rd_T32 l0_1 x9_1).f0)) ∧ w'.cell? ⟨(ad322.add ((x9_1).toNat * 2)).block, (ad322.add ((x9_1).toNat * 2)).off + 1, none⟩ = some (.int .u64 ((rd_T32 l0_1 x9_1).f1))) (ds := []) #[false, false, false, false, false, false, false] (by kernel_rfl) rfl rfl ⟨(blk_cell BK318.out 0).trans rfl, (blk_cell BK318.out 1).trans rfl, (blk_cell BK319.out 0).trans rfl, (blk_cell BK319.out 1).trans rfl, ((HB.out.cell (World.block_lt_of_cell? w _ hw322_0)).trans hw322_0), ((HB.out.cell (World.block_lt_of_cell? w _ hw322_1)).trans hw322_1)⟩ (fun hHeld => ?_)
              generalize wr.drew = w16 at BK318 BK319 BK320 BK321 HB hx322_0 hx322_1 hHeld ⊢
              refine pure_ (i := 0) (N := some 20) (v := ?_) (a' := ?_) #[true, false, false, false, false, false, false] rfl rfl (by kernel_rfl) (fun _ _ _ h => h) (Or.inl ⟨by rfl, ?_⟩) ?_ ?_
              rotate_left
              · intro w'
                go_simp
                with_reducible rfl
              rotate_left
              · simp only [Act.put, List.setIfInBounds_toArray, List.set_cons_zero, List.set_cons_succ, i64_w, i32_w]
                rfl
              refine pure_ (i := 2) (N := some 22) (v := ?_) (a' := ?_) #[true, false, true, false, false, false, false] rfl rfl (by kernel_rfl) (fun _ _ _ h => h) (Or.inl ⟨by rfl, ?_⟩) ?_ ?_
              rotate_left
              · intro w'
                go_simp
                with_reducible rfl
              rotate_left
              · simp only [Act.put, List.setIfInBounds_toArray, List.set_cons_zero, List.set_cons_succ, i64_w, i32_w]
                rfl
              refine take_ (i := 1) (N := some 21) (v := ?_) (a' := ?_) #[true, true, true, false, false, false, false] rfl rfl (by kernel_rfl) (fun _ _ _ h => h) (Or.inl ⟨by rfl, ?_⟩) hHeld ?_ ?_
              rotate_left
              · rintro w' ⟨s0, s1, s2, s3, s4, s5⟩
                go_simp
                with_reducible rfl
              rotate_left
              · simp only [Act.put, List.setIfInBounds_toArray, List.set_cons_zero, List.set_cons_succ, i64_w, i32_w]
                rfl
              refine pure_ (i := 3) (N := some 23) (v := ?_) (a' := ?_) #[true, true, true, true, false, false, false] rfl rfl (by kernel_rfl) (fun _ _ _ h => h) (Or.inl ⟨by rfl, ?_⟩) ?_ ?_
              rotate_left
              · intro w'
                go_simp
                with_reducible rfl
              rotate_left
              · simp only [Act.put, List.setIfInBounds_toArray, List.set_cons_zero, List.set_cons_succ, i64_w, i32_w]
                rfl
              refine take_ (i := 4) (N := some 24) (v := ?_) (a' := ?_) #[true, true, true, true, true, false, false] rfl rfl (by kernel_rfl) (fun _ _ _ h => h) (Or.inl ⟨by rfl, ?_⟩) hHeld ?_ ?_
              rotate_left
              · rintro w' ⟨s0, s1, s2, s3, s4, s5⟩
                go_simp
                with_reducible rfl
              rotate_left
              · simp only [Act.put, List.setIfInBounds_toArray, List.set_cons_zero, List.set_cons_succ, i64_w, i32_w]
                rfl
              refine take_ (i := 5) (N := some 25) (v := ?_) (a' := ?_) #[true, true, true, true, true, true, false] rfl rfl (by kernel_rfl) (fun _ _ _ h => h) (Or.inl ⟨by rfl, ?_⟩) hHeld ?_ ?_
              rotate_left
              · rintro w' ⟨s0, s1, s2, s3, s4, s5⟩
                go_simp
                with_reducible rfl
              rotate_left
              · simp only [Act.put, List.setIfInBounds_toArray, List.set_cons_zero, List.set_cons_succ, i64_w, i32_w]
                rfl
              refine pure_ (i := 6) (N := some 26) (v := ?_) (a' := ?_) #[true, true, true, true, true, true, true] rfl rfl (by kernel_rfl) (fun _ _ _ h => h) (Or.inl ⟨by rfl, ?_⟩) ?_ ?_
              rotate_left
              · intro w'
                go_simp
                with_reducible rfl
              rotate_left
              · simp only [Act.put, List.setIfInBounds_toArray, List.set_cons_zero, List.set_cons_succ, i64_w, i32_w]
                rfl
              refine done_ (by kernel_rfl) ?_
              try go_wp2
              go_roundg k1
              case measure => have := HK1.out; omega
              case rel => exact ⟨(x9_1), (wrap64 (x9_1 - 1)), (by first | rfl | (simp; done) | (simp [*]; done)), (by first | rfl | (simp; done) | (simp [*]; done)), H', ⟨by have := HK1.out; omega⟩, ⟨by (with_reducible repeat (first | refine blk_drewN ?_ _ | refine blk_drew ?_ | refine blk_alloc ?_ _)); exact BK318.out⟩, ⟨by (with_reducible repeat (first | refine blk_drewN ?_ _ | refine blk_drew ?_ | refine blk_alloc ?_ _)); exact BK319.out⟩, ⟨by (with_reducible repeat (first | refine blk_drewN ?_ _ | refine blk_drew ?_ | refine blk_alloc ?_ _)); exact BK320.out⟩, ⟨by (with_reducible repeat (first | refine blk_drewN ?_ _ | refine blk_drew ?_ | refine blk_alloc ?_ _)); exact BK321.out⟩, ⟨by repeat (first | (with_reducible first | exact HB.out | apply below_alloc | apply pw_below_drewN | apply below_drew1 | refine below_set ?_ GE318.out | refine below_set ?_ GE319.out | refine below_set ?_ GE320.out | refine below_set ?_ GE321.out) | exact HB.out)⟩⟩
            · rw [if_neg c15] at H
              have c15b0 : (((rd_T32 l0_1 x9_1).f0) == a1_0 && (((rd_T32 l0_1 x9_1).f1) == a1_1)) = false := by simpa using c15
              (try (have c15b1 : decide (((rd_T32 l0_1 x9_1).f0) = a1_0 && (((rd_T32 l0_1 x9_1).f1) == a1_1)) = false := by simpa using c15))
              (try (have c15b2 : (((rd_T32 l0_1 x9_1).f0) == a1_0 && (((rd_T32 l0_1 x9_1).f1) == a1_1)) = false := by simpa using c15))
              (try (have c15b3 : ¬ (((rd_T32 l0_1 x9_1).f0) = a1_0 && (((rd_T32 l0_1 x9_1).f1) == a1_1)) := by simpa using c15))
              clear c15
              have H' := Aside0.mk H
              clear H
              try go_wp2
              have n0_ := Aside0.mk (blk_drew BK318.out)
              have n1_ := Aside0.mk (blk_drew BK319.out)
              have n2_ := Aside0.mk (blk_drew BK320.out)
              have n3_ := Aside0.mk (blk_drew BK321.out)
              have n4_ := Aside0.mk (below_drew1 HB.out)
              clear BK318
              clear BK319
              clear BK320
              clear BK321
              clear HB
              have BK318 := n0_
              have BK319 := n1_
              have BK320 := n2_
              have BK321 := n3_
              have HB := n4_
              clear n0_ n1_ n2_ n3_ n4_
              have p322 : 0 ≤ (x9_1 : Int) := of_decide_eq_true (by first | (with_reducible assumption) | assumption)
              have q322 : x9_1 < (l0_1.length : Int) := of_decide_eq_true (by first | (with_reducible assumption) | assumption)
              obtain ⟨ad322, e322, hx322_0, hx322_1⟩ := at_T32 HR0_1.out x9_1 p322 q322
              have hw322_1 := hx322_1
              have hw322_0 := hx322_0
              cases e322
              replace hx322_0 := (HB.out.cell (World.block_lt_of_cell? w _ hx322_0)).trans hx322_0
              replace hx322_1 := (HB.out.cell (World.block_lt_of_cell? w _ hx322_1)).trans hx322_1
              replace p322 := eq_true p322
              replace q322 := eq_true q322
              refine start_ (n := 7) (S := fun w' => w'.cell? ⟨gb318, 0, none⟩ = some (.int .u64 a0_0) ∧ w'.cell? ⟨gb318, 1, none⟩ = some (.slice (some ad322) l0_1.length c0_1) ∧ w'.cell? ⟨gb319, 0, none⟩ = some (.int .i64 a1_0) ∧ w'.cell? ⟨gb319, 1, none⟩ = some (.int .u64 a1_1) ∧ w'.cell? (ad322.add ((x9_1).toNat * 2)) = some (.int .i64 ((rd_T32 l0_1 x9_1).f0)) ∧ w'.cell? ⟨(ad322.add ((x9_1).toNat * 2)).block, (ad322.add ((x9_1).toNat * 2)).off + 1, none⟩ = some (.int .u64 ((rd_T32 l0_1 x9_1).f1))) (ds := []) #[false, false, false, false, false, false, false] (by kernel_rfl) rfl rfl ⟨(blk_cell BK318.out 0).trans rfl, (blk_cell BK318.out 1).trans rfl, (blk_cell BK319.out 0).trans rfl, (blk_cell BK319.out 1).trans rfl, ((HB.out.cell (World.block_lt_of_cell? w _ hw322_0)).trans hw322_0), ((HB.out.cell (World.block_lt_of_cell? w _ hw322_1)).trans hw322_1)⟩ (fun hHeld => ?_)
              generalize wr.drew = w17 at BK318 BK319 BK320 BK321 HB hx322_0 hx322_1 hHeld ⊢
              refine pure_ (i := 0) (N := some 20) (v := ?_) (a' := ?_) #[true, false, false, false, false, false, false] rfl rfl (by kernel_rfl) (fun _ _ _ h => h) (Or.inl ⟨by rfl, ?_⟩) ?_ ?_
              rotate_left
              · intro w'
                go_simp
                with_reducible rfl
              rotate_left
              · simp only [Act.put, List.setIfInBounds_toArray, List.set_cons_zero, List.set_cons_succ, i64_w, i32_w]
                rfl
              refine pure_ (i := 2) (N := some 22) (v := ?_) (a' := ?_) #[true, false, true, false, false, false, false] rfl rfl (by kernel_rfl) (fun _ _ _ h => h) (Or.inl ⟨by rfl, ?_⟩) ?_ ?_
              rotate_left
              · intro w'
                go_simp
                with_reducible rfl
              rotate_left
              · simp only [Act.put, List.setIfInBounds_toArray, List.set_cons_zero, List.set_cons_succ, i64_w, i32_w]
                rfl
              refine take_ (i := 1) (N := some 21) (v := ?_) (a' := ?_) #[true, true, true, false, false, false, false] rfl rfl (by kernel_rfl) (fun _ _ _ h => h) (Or.inl ⟨by rfl, ?_⟩) hHeld ?_ ?_
              rotate_left
              · rintro w' ⟨s0, s1, s2, s3, s4, s5⟩
                go_simp
                with_reducible rfl
              rotate_left
              · simp only [Act.put, List.setIfInBounds_toArray, List.set_cons_zero, List.set_cons_succ, i64_w, i32_w]
                rfl
              refine pure_ (i := 3) (N := some 23) (v := ?_) (a' := ?_) #[true, true, true, true, false, false, false] rfl rfl (by kernel_rfl) (fun _ _ _ h => h) (Or.inl ⟨by rfl, ?_⟩) ?_ ?_
              rotate_left
              · intro w'
                go_simp
                with_reducible rfl
              rotate_left
              · simp only [Act.put, List.setIfInBounds_toArray, List.set_cons_zero, List.set_cons_succ, i64_w, i32_w]
                rfl
              refine take_ (i := 4) (N := some 24) (v := ?_) (a' := ?_) #[true, true, true, true, true, false, false] rfl rfl (by kernel_rfl) (fun _ _ _ h => h) (Or.inl ⟨by rfl, ?_⟩) hHeld ?_ ?_
              rotate_left
              · rintro w' ⟨s0, s1, s2, s3, s4, s5⟩
                go_simp
                with_reducible rfl
              rotate_left
              · simp only [Act.put, List.setIfInBounds_toArray, List.set_cons_zero, List.set_cons_succ, i64_w, i32_w]
                rfl
              refine take_ (i := 5) (N := some 25) (v := ?_) (a' := ?_) #[true, true, true, true, true, true, false] rfl rfl (by kernel_rfl) (fun _ _ _ h => h) (Or.inl ⟨by rfl, ?_⟩) hHeld ?_ ?_
              rotate_left
              · rintro w' ⟨s0, s1, s2, s3, s4, s5⟩
                go_simp
                with_reducible rfl
              rotate_left
              · simp only [Act.put, List.setIfInBounds_toArray, List.set_cons_zero, List.set_cons_succ, i64_w, i32_w]
                rfl
              refine pure_ (i := 6) (N := some 26) (v := ?_) (a' := ?_) #[true, true, true, true, true, true, true] rfl rfl (by kernel_rfl) (fun _ _ _ h => h) (Or.inl ⟨by rfl, ?_⟩) ?_ ?_
              rotate_left
              · intro w'
                go_simp
                with_reducible rfl
              rotate_left
              · simp only [Act.put, List.setIfInBounds_toArray, List.set_cons_zero, List.set_cons_succ, i64_w, i32_w]
                rfl
              refine done_ (by kernel_rfl) ?_
              try go_wp2
              go_roundg k1
              case measure => have := HK1.out; omega
              case rel => exact ⟨(x8_1), (wrap64 (x9_1 - 1)), (by first | rfl | (simp; done) | (simp [*]; done)), (by first | rfl | (simp; done) | (simp [*]; done)), H', ⟨by have := HK1.out; omega⟩, ⟨by (with_reducible repeat (first | refine blk_drewN ?_ _ | refine blk_drew ?_ | refine blk_alloc ?_ _)); exact BK318.out⟩, ⟨by (with_reducible repeat (first | refine blk_drewN ?_ _ | refine blk_drew ?_ | refine blk_alloc ?_ _)); exact BK319.out⟩, ⟨by (with_reducible repeat (first | refine blk_drewN ?_ _ | refine blk_drew ?_ | refine blk_alloc ?_ _)); exact BK320.out⟩, ⟨by (with_reducible repeat (first | refine blk_drewN ?_ _ | refine blk_drew ?_ | refine blk_alloc ?_ _)); exact BK321.out⟩, ⟨by repeat (first | (with_reducible first | exact HB.out | apply below_alloc | apply pw_below_drewN | apply below_drew1 | refine below_set ?_ GE318.out | refine below_set ?_ GE319.out | refine below_set ?_ GE320.out | refine below_set ?_ GE321.out) | exact HB.out)⟩⟩
          · rw [if_neg c14] at H
            exact absurd H (by simp)
        · rw [if_neg c13] at H
          exact absurd H (by simp)
      · rw [if_neg c12] at H
        have c12b0 : decide (0 ≤ x9_1) = false := decide_eq_false c12
        clear c12
        by_cases c18 : x8_1 < 0
        · rw [if_pos c18] at H
          have c18b0 : decide (x8_1 < 0) = true := decide_eq_true c18
          clear c18
          simp only [Option.some.injEq, Prod.mk.injEq] at H
          obtain ⟨rfl, rfl, rfl⟩ := H
          have hnb19 := NB321_318.out
          have hnc19 := NB318_321.out
          have hnb20 := NB321_319.out
          have hnc20 := NB319_321.out
          have hnb21 := NB321_320.out
          have hnc21 := NB320_321.out
          have hcz22_0 : wr.cell? ⟨gb321, 0, none⟩ = some (.int .u64 0) := (blk_cell BK321.out 0).trans rfl
          have hcz22_1 : wr.cell? ⟨gb321, 1, none⟩ = some (.slice none 0 0) := (blk_cell BK321.out 1).trans rfl
          have hfz22_0 := blk_frozen BK321.out 0
          have hfz22_1 := blk_frozen BK321.out 1
          go_wp2
          refine bodyPost_ret (results_ct rfl _ _ gb321 25 #[.int .u64 0, .slice none 0 0] (0, 0) _ rfl (by (with_reducible repeat (first | refine blk_drewN ?_ _ | refine blk_drew ?_ | refine blk_alloc ?_ _)); refine blk_put (cs := #[.int .u64 0, .slice none 0 0]) ?_ 1 _ rfl; (with_reducible repeat (first | refine blk_drewN ?_ _ | refine blk_drew ?_ | refine blk_alloc ?_ _)); refine blk_put (cs := #[.int .u64 0, .slice none 0 0]) ?_ 0 _ rfl; (with_reducible repeat (first | refine blk_drewN ?_ _ | refine blk_drew ?_ | refine blk_alloc ?_ _)); exact BK321.out) Try.underlying25 rfl (by kernel_rfl)) rfl ?_
          exact ⟨_, by first | rfl | (simp [errW_none, errW_some] <;> rfl) | (simp [*, errW_none, errW_some] <;> rfl), by first | exact Kd.R_nil _ _ _ _ _ | exact Kd.N_nil _ _ _ _ _ | exact Kd.V_nil _ _ _ _ _ | exact Kd.Q_nil _ _ _ _ _ | exact Kd.S_nil _ _ _ _ _, by repeat (first | (with_reducible first | exact HB.out | apply below_alloc | apply pw_below_drewN | apply below_drew1 | refine below_set ?_ GE318.out | refine below_set ?_ GE319.out | refine below_set ?_ GE320.out | refine below_set ?_ GE321.out) | exact HB.out)⟩
        · rw [if_neg c18] at H
          have c18b0 : decide (x8_1 < 0) = false := decide_eq_false c18
          clear c18
          obtain ⟨y323, hy323⟩ : ∃ y_ : List (S32), y_ = (([] : List (S32))) := ⟨_, rfl⟩
          replace H : (if y323.length + l0_1.length < 8796093022208 then (scrivenerref14_Swap.l1 k1 x8_1 0 a2_0 a2_1 a0_0 (y323 ++ l0_1)) else (none)) = some (r1, r2, r3) := by first | (rw [hy323]; with_reducible exact H) | (have H2_ := (Option.bind_some _ _).symm.trans H; rw [hy323]; with_reducible exact H2_) | (have H2_ := (Option.bind_some _ _).symm.trans H; with_reducible exact H2_) | with_reducible exact H | (rw [hy323]; exact H) | exact H
          have Ny323 := Aside0.mk hy323
          clear hy323
          by_cases c23 : y323.length + l0_1.length < 8796093022208
          · rw [if_pos c23] at H
            have LMc23 := Aside0.mk c23
            clear c23
            obtain ⟨y326, hy326⟩ : ∃ y_ : List (S32), y_ = (y323 ++ l0_1) := ⟨_, rfl⟩
            replace H : (scrivenerref14_Swap.l1 k1 x8_1 0 a2_0 a2_1 a0_0 y326) = some (r1, r2, r3) := by first | (rw [hy326]; with_reducible exact H) | (have H2_ := (Option.bind_some _ _).symm.trans H; rw [hy326]; with_reducible exact H2_) | (have H2_ := (Option.bind_some _ _).symm.trans H; with_reducible exact H2_) | with_reducible exact H | (rw [hy326]; exact H) | exact H
            have Ny326 := Aside0.mk hy326
            clear hy326
            have H' := Aside0.mk H
            clear H
            try go_wp2
            have n0_ := Aside0.mk (blk_drew BK318.out)
            have n1_ := Aside0.mk (blk_drew BK319.out)
            have n2_ := Aside0.mk (blk_drew BK320.out)
            have n3_ := Aside0.mk (blk_drew BK321.out)
            have n4_ := Aside0.mk (below_drew1 HB.out)
            clear BK318
            clear BK319
            clear BK320
            clear BK321
            clear HB
            have BK318 := n0_
            have BK319 := n1_
            have BK320 := n2_
            have BK321 := n3_
            have HB := n4_
            clear n0_ n1_ n2_ n3_ n4_
            refine start_ (n := 9) (S := fun w' => w'.cell? ⟨gb318, 0, none⟩ = some (.int .u64 a0_0) ∧ w'.cell? ⟨gb318, 1, none⟩ = some (.slice A0_1 l0_1.length c0_1)) (ds := []) #[false, false, false, false, false, false, false, false, false] (by kernel_rfl) rfl rfl ⟨(blk_cell BK318.out 0).trans rfl, (blk_cell BK318.out 1).trans rfl⟩ (fun hHeld => ?_); refine with_tabW scrivenerref14_Swap.tab9 scrivenerref14_Swap.bits9 (fun HT_ HW_ => ?_)
            generalize wr.drew = w24 at BK318 BK319 BK320 BK321 HB hHeld ⊢
            refine pure_ (i := 0) (N := some 31) (v := ?_) (a' := ?_) #[true, false, false, false, false, false, false, false, false] rfl rfl (any_of HT_.out (by kernel_rfl)) (fun _ _ _ h => h) (Or.inl ⟨by rfl, ?_⟩) ?_ ?_
            rotate_left
            · intro w'
              go_simp
              with_reducible rfl
            rotate_left
            · simp only [Act.put, List.setIfInBounds_toArray, List.set_cons_zero, List.set_cons_succ, i64_w, i32_w]
              rfl
            refine pure_ (i := 3) (N := some 34) (v := ?_) (a' := ?_) #[true, false, false, true, false, false, false, false, false] rfl rfl (any_of HT_.out (by kernel_rfl)) (fun _ _ _ h => h) (Or.inl ⟨by rfl, ?_⟩) ?_ ?_
            rotate_left
            · intro w'
              go_simp
              with_reducible rfl
            rotate_left
            · simp only [Act.put, List.setIfInBounds_toArray, List.set_cons_zero, List.set_cons_succ, i64_w, i32_w]
              rfl
            refine take_ (i := 1) (N := some 32) (v := ?_) (a' := ?_) #[true, true, false, true, false, false, false, false, false] rfl rfl (take_ofW HT_.out HW_.out (by kernel_rfl)) (fun _ _ _ h => h) (Or.inl ⟨by rfl, ?_⟩) hHeld ?_ ?_
            rotate_left
            · rintro w' ⟨s0, s1⟩
              go_simp
              with_reducible rfl
            rotate_left
            · simp only [Act.put, List.setIfInBounds_toArray, List.set_cons_zero, List.set_cons_succ, i64_w, i32_w]
              rfl
            refine take_ (i := 4) (N := some 35) (v := ?_) (a' := ?_) #[true, true, false, true, true, false, false, false, false] rfl rfl (take_ofW HT_.out HW_.out (by kernel_rfl)) (fun _ _ _ h => h) (Or.inl ⟨by rfl, ?_⟩) hHeld ?_ ?_
            rotate_left
            · rintro w' ⟨s0, s1⟩
              go_simp
              with_reducible rfl
            rotate_left
            · simp only [Act.put, List.setIfInBounds_toArray, List.set_cons_zero, List.set_cons_succ, i64_w, i32_w]
              rfl
            refine join_ (σ := Value × Value × Nat) 1 #[true, true, true, true, true, true, true, true, false] (fun s_ => [(33, s_.1), (36, s_.2.1), (10, .pointer (some ⟨s_.2.2, 0, none⟩)), (37, .agg #[.int .u64 a0_0, s_.2.1])]) (fun s_ w' => (w'.cell? ⟨gb318, 0, none⟩ = some (.int .u64 a0_0) ∧ w'.cell? ⟨gb318, 1, none⟩ = some (.slice A0_1 l0_1.length c0_1)) ∧ (Kd.R k32 32 w' w.heap.size (fun k_ => k_ ≠ gb319 ∧ k_ ≠ gb320) s_.2.1 y326) ∧ (w'.heap[gb318]? = some (.cells #[.int .u64 a0_0, .slice A0_1 l0_1.length c0_1] 25 (0, 0))) ∧ (w'.heap[gb319]? = some (.cells #[.int .i64 a1_0, .int .u64 a1_1] 32 (0, 0))) ∧ (w'.heap[gb320]? = some (.cells #[.int .i64 a2_0, .int .u64 a2_1] 32 (0, 0))) ∧ (w'.heap[gb321]? = some (.cells #[.int .u64 0, .slice none 0 0] 25 (0, 0))) ∧ (w'.heap[s_.2.2]? = some (.cells #[.int .u64 0, .slice none 0 0] 25 (0, 0))) ∧ (w.heap.size ≤ s_.2.2) ∧ (w.heap.size ≤ s_.2.2) ∧ (gb318 ≠ s_.2.2) ∧ (s_.2.2 ≠ gb318) ∧ (gb319 ≠ s_.2.2) ∧ (s_.2.2 ≠ gb319) ∧ (gb320 ≠ s_.2.2) ∧ (s_.2.2 ≠ gb320) ∧ (gb321 ≠ s_.2.2) ∧ (s_.2.2 ≠ gb321) ∧ (Below w.heap.size w w')) ?_ ?_
            rotate_left
            · intro hCont
              refine two_ (i := 2) (j := 7) (Ni := some 33) (Nj := some 10) #[true, true, true, true, true, false, false, false, false] #[true, true, false, true, true, false, false, true, false] rfl rfl rfl rfl (two_of HT_.out (by kernel_rfl)) (by decide) (by decide) (fun K hK => ?_) (fun K hK => ?_)
              · skip
                refine Kd.R_lit_step k32 _ 32 ?hg (N := 33) ?hd (xs := ([] : List (S32))) (inner := []) (ok := fun _ => True) (okp := fun _ => True) ?hr ?hp (fun _ hk => hk) trivial (Below.refl _ _) (Nat.le_refl _) (by simp) ?_; (case hd => rfl); (case hg => rfl); (case hr => first | (go_simp; done) | (go_simp; rfl)); (case hp => exact (Reps.none _ _))
                intro v324 w25 ho26 hb hg_ hnew_
                clear hg_ hnew_
                (first | rw [← Ny323.out] at ho26 | (simp only [Int.reduceToNat] at ho26; rw [← Ny323.out] at ho26))
                have n0_ := Aside0.mk (Kd.R_lower (Kd.R_newB (Kd.R_newB ho26 (g := gb319) (o := .cells #[.int .i64 a1_0, .int .u64 a1_1] 32 (0, 0)) (Bb BK319.out)) (g := gb320) (o := .cells #[.int .i64 a2_0, .int .u64 a2_1] 32 (0, 0)) (Bb BK320.out)) (below_size (Hb HB.out)))
                have n1_ := Aside0.mk (blk_below (Bb BK318.out) hb)
                have n2_ := Aside0.mk (blk_below (Bb BK319.out) hb)
                have n3_ := Aside0.mk (blk_below (Bb BK320.out) hb)
                have n4_ := Aside0.mk (blk_below (Bb BK321.out) hb)
                have n5_ := Aside0.mk (below_step (Hb HB.out) hb)
                clear BK318
                clear BK319
                clear BK320
                clear BK321
                clear HB
                have HO325 := n0_
                have BK318 := n1_
                have BK319 := n2_
                have BK320 := n3_
                have BK321 := n4_
                have HB := n5_
                clear n0_ n1_ n2_ n3_ n4_ n5_
                clear hb ho26
                refine hK.out _ _ ⟨(blk_cell BK318.out 0).trans rfl, (blk_cell BK318.out 1).trans rfl⟩ (fun hHeld => ?_)
                clear hK K
                refine norm_ (a' := ?_) ?_ ?_
                rotate_left
                · show Act.put _ (some 33) _ = _
                  simp only [Act.put, List.setIfInBounds_toArray, List.set_cons_zero, List.set_cons_succ, i64_w, i32_w]
                  rfl
                refine two_ (i := 5) (j := 7) (Ni := some 36) (Nj := some 10) #[true, true, true, true, true, true, false, false, false] #[true, true, true, true, true, false, false, true, false] rfl rfl rfl rfl (two_of HT_.out (by kernel_rfl)) (by decide) (by decide) (fun K hK => ?_) (fun K hK => ?_)
                · skip
                  refine Kd.R_append_rows_step k32 (w0 := w) w.heap.size (by rfl) (.tmp 33) (.tmp 35) 23 32 (.agg #[(.int .i64 0), (.int .u64 0)]) 16 rfl Try.underlying23 info32 rfl (by decide) (by omega) v324 y323 l0_1 _ _ _ (fun k_ => k_ ≠ gb319 ∧ k_ ≠ gb320) (fun _ => False) rfl rfl ?aO ?aR (fun _ _ h => h) (fun _ h => h.elim) ?aF ?aB ?aS ?aL ?_
                  (case aR => repeat (first | exact (Kd.C_below HR0_1.out HB.out) | (with_reducible refine Kd.C_alloc ?_ _) | (with_reducible refine Kd.C_drewN ?_ _) | (with_reducible refine Kd.C_drew ?_)))
                  (case aB => exact (Hb HB.out))
                  (case aF => exact (fun k_ hk => ⟨Kd.freshB (Bb BK319.out) k_ hk, Kd.freshB (Bb BK320.out) k_ hk⟩))
                  (case aO => exact (by (with_reducible repeat (first | apply Kd.R_alloc | apply Kd.R_drewN | apply Kd.R_drew)); exact Kd.R_mono HO325.out (fun _ hk => ⟨hk.1.2, hk.2⟩)))
                  (case aS => exact (below_size (Hb HB.out)))
                  (case aL => have := LMc23.out; omega)
                  intro v327 w27 ho hb hg hat
                  rw [← Ny326.out] at ho
                  have n0_ := Aside0.mk (blk_grown (g := gb318) (o := .cells #[.int .u64 a0_0, .slice A0_1 l0_1.length c0_1] 25 (0, 0)) (Bb BK318.out) hg (Kd.R_ne HO325.out BK318.out (by decide)))
                  have n1_ := Aside0.mk (blk_grown (g := gb319) (o := .cells #[.int .i64 a1_0, .int .u64 a1_1] 32 (0, 0)) (Bb BK319.out) hg (Kd.R_away HO325.out (fun _ hk => hk.1.2)))
                  have n2_ := Aside0.mk (blk_grown (g := gb320) (o := .cells #[.int .i64 a2_0, .int .u64 a2_1] 32 (0, 0)) (Bb BK320.out) hg (Kd.R_away HO325.out (fun _ hk => hk.2)))
                  have n3_ := Aside0.mk (blk_grown (g := gb321) (o := .cells #[.int .u64 0, .slice none 0 0] 25 (0, 0)) (Bb BK321.out) hg (Kd.R_ne HO325.out BK321.out (by decide)))
                  have n4_ := Aside0.mk (hb)
                  have n5_ := Aside0.mk (ho)
                  clear BK318
                  clear BK319
                  clear BK320
                  clear BK321
                  clear HB
                  clear HO325
                  have BK318 := n0_
                  have BK319 := n1_
                  have BK320 := n2_
                  have BK321 := n3_
                  have HB := n4_
                  have HO328 := n5_
                  clear n0_ n1_ n2_ n3_ n4_ n5_
                  clear ho hb hg hat
                  obtain ⟨Ao28, co28, eo28⟩ := Kd.R_slice HO328.out
                  (first | subst eo28 | (injection eo28 with f1_ f2_ f3_; have f4_ := f1_.symm; have f5_ := f3_.symm; clear f1_ f2_ f3_; subst f4_; subst f5_))
                  refine hK.out _ _ ⟨(blk_cell BK318.out 0).trans rfl, (blk_cell BK318.out 1).trans rfl⟩ (fun hHeld => ?_)
                  clear hK K
                  refine norm_ (a' := ?_) ?_ ?_
                  rotate_left
                  · show Act.put _ (some 36) _ = _
                    simp only [Act.put, List.setIfInBounds_toArray, List.set_cons_zero, List.set_cons_succ, i64_w, i32_w]
                    rfl
                  refine pure_ (i := 6) (N := some 37) (v := ?_) (a' := ?_) #[true, true, true, true, true, true, true, false, false] rfl rfl (any_of HT_.out (by kernel_rfl)) (fun _ _ _ h => h) (Or.inl ⟨by rfl, ?_⟩) ?_ ?_
                  rotate_left
                  · intro w'
                    go_simp
                    with_reducible rfl
                  rotate_left
                  · simp only [Act.put, List.setIfInBounds_toArray, List.set_cons_zero, List.set_cons_succ, i64_w, i32_w]
                    rfl
                  refine one_ (i := 7) (N := some 10) #[true, true, true, true, true, true, true, true, false] rfl rfl (one_of HT_.out (by kernel_rfl)) (by decide) (fun K hK => ?_)
                  refine box_step ?hg (N := 10) ?hd (cs := #[.int .u64 0, .slice none 0 0]) (t := 25) ?hr ?_; (case hd => rfl); (case hg => rfl); (case hr => first | (go_simp; done) | (go_simp; rfl))
                  intro gb329 hg w29 hbox hb
                  have n0_ := Aside0.mk (Kd.R_below (Rb HO328.out) hb)
                  have n1_ := Aside0.mk (blk_below (Bb BK318.out) hb)
                  have n2_ := Aside0.mk (blk_below (Bb BK319.out) hb)
                  have n3_ := Aside0.mk (blk_below (Bb BK320.out) hb)
                  have n4_ := Aside0.mk (blk_below (Bb BK321.out) hb)
                  have n5_ := Aside0.mk (below_step (Hb HB.out) hb)
                  have n6_ := Aside0.mk (hbox)
                  have n7_ := Aside0.mk ((by rw [hg]; exact (below_size (Hb HB.out)) : w.heap.size ≤ gb329))
                  have n8_ := Aside0.mk ((by rw [hg]; exact (below_size (Hb HB.out)) : w.heap.size ≤ gb329))
                  have n9_ := Aside0.mk ((by rw [hg]; exact Nat.ne_of_lt (blk_lt (g := gb318) (o := .cells #[.int .u64 a0_0, .slice A0_1 l0_1.length c0_1] 25 (0, 0)) (Bb BK318.out)) : gb318 ≠ gb329))
                  have n10_ := Aside0.mk ((by rw [hg]; exact Nat.ne_of_gt (blk_lt (g := gb318) (o := .cells #[.int .u64 a0_0, .slice A0_1 l0_1.length c0_1] 25 (0, 0)) (Bb BK318.out)) : gb329 ≠ gb318))
                  have n11_ := Aside0.mk ((by rw [hg]; exact Nat.ne_of_lt (blk_lt (g := gb319) (o := .cells #[.int .i64 a1_0, .int .u64 a1_1] 32 (0, 0)) (Bb BK319.out)) : gb319 ≠ gb329))
                  have n12_ := Aside0.mk ((by rw [hg]; exact Nat.ne_of_gt (blk_lt (g := gb319) (o := .cells #[.int .i64 a1_0, .int .u64 a1_1] 32 (0, 0)) (Bb BK319.out)) : gb329 ≠ gb319))
                  have n13_ := Aside0.mk ((by rw [hg]; exact Nat.ne_of_lt (blk_lt (g := gb320) (o := .cells #[.int .i64 a2_0, .int .u64 a2_1] 32 (0, 0)) (Bb BK320.out)) : gb320 ≠ gb329))
                  have n14_ := Aside0.mk ((by rw [hg]; exact Nat.ne_of_gt (blk_lt (g := gb320) (o := .cells #[.int .i64 a2_0, .int .u64 a2_1] 32 (0, 0)) (Bb BK320.out)) : gb329 ≠ gb320))
                  have n15_ := Aside0.mk ((by rw [hg]; exact Nat.ne_of_lt (blk_lt (g := gb321) (o := .cells #[.int .u64 0, .slice none 0 0] 25 (0, 0)) (Bb BK321.out)) : gb321 ≠ gb329))
                  have n16_ := Aside0.mk ((by rw [hg]; exact Nat.ne_of_gt (blk_lt (g := gb321) (o := .cells #[.int .u64 0, .slice none 0 0] 25 (0, 0)) (Bb BK321.out)) : gb329 ≠ gb321))
                  clear HO328
                  clear BK318
                  clear BK319
                  clear BK320
                  clear BK321
                  clear HB
                  have HO328 := n0_
                  have BK318 := n1_
                  have BK319 := n2_
                  have BK320 := n3_
                  have BK321 := n4_
                  have HB := n5_
                  have BK329 := n6_
                  have GW329 := n7_
                  have GE329 := n8_
                  have NB318_329 := n9_
                  have NB329_318 := n10_
                  have NB319_329 := n11_
                  have NB329_319 := n12_
                  have NB320_329 := n13_
                  have NB329_320 := n14_
                  have NB321_329 := n15_
                  have NB329_321 := n16_
                  clear n0_ n1_ n2_ n3_ n4_ n5_ n6_ n7_ n8_ n9_ n10_ n11_ n12_ n13_ n14_ n15_ n16_
                  clear hb hbox hg
                  refine hK.out _ _ ⟨(blk_cell BK318.out 0).trans rfl, (blk_cell BK318.out 1).trans rfl⟩ (fun hHeld => ?_)
                  clear hK K
                  refine norm_ (a' := ?_) ?_ ?_
                  rotate_left
                  · show Act.put _ (some 10) _ = _
                    simp only [Act.put, List.setIfInBounds_toArray, List.set_cons_zero, List.set_cons_succ, i64_w, i32_w]
                    rfl
                  exact norm_ (by simp only [putAll, Act.put, List.setIfInBounds_toArray, List.set_cons_zero, List.set_cons_succ]) (hCont (v324, .slice Ao28 y326.length co28, gb329) _ ⟨hHeld, (Rb HO328.out), (Bb BK318.out), (Bb BK319.out), (Bb BK320.out), (Bb BK321.out), (Bb BK329.out), GW329.out, GE329.out, NB318_329.out, NB329_318.out, NB319_329.out, NB329_319.out, NB320_329.out, NB329_320.out, NB321_329.out, NB329_321.out, (Hb HB.out)⟩)
                · skip
                  refine box_step ?hg (N := 10) ?hd (cs := #[.int .u64 0, .slice none 0 0]) (t := 25) ?hr ?_; (case hd => rfl); (case hg => rfl); (case hr => first | (go_simp; done) | (go_simp; rfl))
                  intro gb329 hg w27 hbox hb
                  have n0_ := Aside0.mk (Kd.R_below (Rb HO325.out) hb)
                  have n1_ := Aside0.mk (blk_below (Bb BK318.out) hb)
                  have n2_ := Aside0.mk (blk_below (Bb BK319.out) hb)
                  have n3_ := Aside0.mk (blk_below (Bb BK320.out) hb)
                  have n4_ := Aside0.mk (blk_below (Bb BK321.out) hb)
                  have n5_ := Aside0.mk (below_step (Hb HB.out) hb)
                  have n6_ := Aside0.mk (hbox)
                  have n7_ := Aside0.mk ((by rw [hg]; exact (below_size (Hb HB.out)) : w.heap.size ≤ gb329))
                  have n8_ := Aside0.mk ((by rw [hg]; exact (below_size (Hb HB.out)) : w.heap.size ≤ gb329))
                  have n9_ := Aside0.mk ((by rw [hg]; exact Nat.ne_of_lt (blk_lt (g := gb318) (o := .cells #[.int .u64 a0_0, .slice A0_1 l0_1.length c0_1] 25 (0, 0)) (Bb BK318.out)) : gb318 ≠ gb329))
                  have n10_ := Aside0.mk ((by rw [hg]; exact Nat.ne_of_gt (blk_lt (g := gb318) (o := .cells #[.int .u64 a0_0, .slice A0_1 l0_1.length c0_1] 25 (0, 0)) (Bb BK318.out)) : gb329 ≠ gb318))
                  have n11_ := Aside0.mk ((by rw [hg]; exact Nat.ne_of_lt (blk_lt (g := gb319) (o := .cells #[.int .i64 a1_0, .int .u64 a1_1] 32 (0, 0)) (Bb BK319.out)) : gb319 ≠ gb329))
                  have n12_ := Aside0.mk ((by rw [hg]; exact Nat.ne_of_gt (blk_lt (g := gb319) (o := .cells #[.int .i64 a1_0, .int .u64 a1_1] 32 (0, 0)) (Bb BK319.out)) : gb329 ≠ gb319))
                  have n13_ := Aside0.mk ((by rw [hg]; exact Nat.ne_of_lt (blk_lt (g := gb320) (o := .cells #[.int .i64 a2_0, .int .u64 a2_1] 32 (0, 0)) (Bb BK320.out)) : gb320 ≠ gb329))
                  have n14_ := Aside0.mk ((by rw [hg]; exact Nat.ne_of_gt (blk_lt (g := gb320) (o := .cells #[.int .i64 a2_0, .int .u64 a2_1] 32 (0, 0)) (Bb BK320.out)) : gb329 ≠ gb320))
                  have n15_ := Aside0.mk ((by rw [hg]; exact Nat.ne_of_lt (blk_lt (g := gb321) (o := .cells #[.int .u64 0, .slice none 0 0] 25 (0, 0)) (Bb BK321.out)) : gb321 ≠ gb329))
                  have n16_ := Aside0.mk ((by rw [hg]; exact Nat.ne_of_gt (blk_lt (g := gb321) (o := .cells #[.int .u64 0, .slice none 0 0] 25 (0, 0)) (Bb BK321.out)) : gb329 ≠ gb321))
                  clear HO325
                  clear BK318
                  clear BK319
                  clear BK320
                  clear BK321
                  clear HB
                  have HO325 := n0_
                  have BK318 := n1_
                  have BK319 := n2_
                  have BK320 := n3_
                  have BK321 := n4_
                  have HB := n5_
                  have BK329 := n6_
                  have GW329 := n7_
                  have GE329 := n8_
                  have NB318_329 := n9_
                  have NB329_318 := n10_
                  have NB319_329 := n11_
                  have NB329_319 := n12_
                  have NB320_329 := n13_
                  have NB329_320 := n14_
                  have NB321_329 := n15_
                  have NB329_321 := n16_
                  clear n0_ n1_ n2_ n3_ n4_ n5_ n6_ n7_ n8_ n9_ n10_ n11_ n12_ n13_ n14_ n15_ n16_
                  clear hb hbox hg
                  refine hK.out _ _ ⟨(blk_cell BK318.out 0).trans rfl, (blk_cell BK318.out 1).trans rfl⟩ (fun hHeld => ?_)
                  clear hK K
                  refine norm_ (a' := ?_) ?_ ?_
                  rotate_left
                  · show Act.put _ (some 10) _ = _
                    simp only [Act.put, List.setIfInBounds_toArray, List.set_cons_zero, List.set_cons_succ, i64_w, i32_w]
                    rfl
                  refine one_ (i := 5) (N := some 36) #[true, true, true, true, true, true, false, true, false] rfl rfl (one_of HT_.out (by kernel_rfl)) (by decide) (fun K hK => ?_)
                  refine Kd.R_append_rows_step k32 (w0 := w) w.heap.size (by rfl) (.tmp 33) (.tmp 35) 23 32 (.agg #[(.int .i64 0), (.int .u64 0)]) 16 rfl Try.underlying23 info32 rfl (by decide) (by omega) v324 y323 l0_1 _ _ _ (fun k_ => k_ ≠ gb319 ∧ k_ ≠ gb320) (fun _ => False) rfl rfl ?aO ?aR (fun _ _ h => h) (fun _ h => h.elim) ?aF ?aB ?aS ?aL ?_
                  (case aR => repeat (first | exact (Kd.C_below HR0_1.out HB.out) | (with_reducible refine Kd.C_alloc ?_ _) | (with_reducible refine Kd.C_drewN ?_ _) | (with_reducible refine Kd.C_drew ?_)))
                  (case aB => exact (Hb HB.out))
                  (case aF => exact (fun k_ hk => ⟨Kd.freshB (Bb BK319.out) k_ hk, Kd.freshB (Bb BK320.out) k_ hk⟩))
                  (case aO => exact (by (with_reducible repeat (first | apply Kd.R_alloc | apply Kd.R_drewN | apply Kd.R_drew)); exact Kd.R_mono HO325.out (fun _ hk => ⟨hk.1.2, hk.2⟩)))
                  (case aS => exact (below_size (Hb HB.out)))
                  (case aL => have := LMc23.out; omega)
                  intro v327 w28 ho hb hg hat
                  rw [← Ny326.out] at ho
                  have n0_ := Aside0.mk (blk_grown (g := gb318) (o := .cells #[.int .u64 a0_0, .slice A0_1 l0_1.length c0_1] 25 (0, 0)) (Bb BK318.out) hg (Kd.R_ne HO325.out BK318.out (by decide)))
                  have n1_ := Aside0.mk (blk_grown (g := gb319) (o := .cells #[.int .i64 a1_0, .int .u64 a1_1] 32 (0, 0)) (Bb BK319.out) hg (Kd.R_away HO325.out (fun _ hk => hk.1.2)))
                  have n2_ := Aside0.mk (blk_grown (g := gb320) (o := .cells #[.int .i64 a2_0, .int .u64 a2_1] 32 (0, 0)) (Bb BK320.out) hg (Kd.R_away HO325.out (fun _ hk => hk.2)))
                  have n3_ := Aside0.mk (blk_grown (g := gb321) (o := .cells #[.int .u64 0, .slice none 0 0] 25 (0, 0)) (Bb BK321.out) hg (Kd.R_ne HO325.out BK321.out (by decide)))
                  have n4_ := Aside0.mk (blk_grown (g := gb329) (o := .cells #[.int .u64 0, .slice none 0 0] 25 (0, 0)) (Bb BK329.out) hg (Kd.R_ne HO325.out BK329.out (by decide)))
                  have n5_ := Aside0.mk (hb)
                  have n6_ := Aside0.mk (ho)
                  clear BK318
                  clear BK319
                  clear BK320
                  clear BK321
                  clear BK329
                  clear HB
                  clear HO325
                  have BK318 := n0_
                  have BK319 := n1_
                  have BK320 := n2_
                  have BK321 := n3_
                  have BK329 := n4_
                  have HB := n5_
                  have HO328 := n6_
                  clear n0_ n1_ n2_ n3_ n4_ n5_ n6_
                  clear ho hb hg hat
                  obtain ⟨Ao29, co29, eo29⟩ := Kd.R_slice HO328.out
                  (first | subst eo29 | (injection eo29 with f1_ f2_ f3_; have f4_ := f1_.symm; have f5_ := f3_.symm; clear f1_ f2_ f3_; subst f4_; subst f5_))
                  refine hK.out _ _ ⟨(blk_cell BK318.out 0).trans rfl, (blk_cell BK318.out 1).trans rfl⟩ (fun hHeld => ?_)
                  clear hK K
                  refine norm_ (a' := ?_) ?_ ?_
                  rotate_left
                  · show Act.put _ (some 36) _ = _
                    simp only [Act.put, List.setIfInBounds_toArray, List.set_cons_zero, List.set_cons_succ, i64_w, i32_w]
                    rfl
                  refine pure_ (i := 6) (N := some 37) (v := ?_) (a' := ?_) #[true, true, true, true, true, true, true, true, false] rfl rfl (any_of HT_.out (by kernel_rfl)) (fun _ _ _ h => h) (Or.inl ⟨by rfl, ?_⟩) ?_ ?_
                  rotate_left
                  · intro w'
                    go_simp
                    with_reducible rfl
                  rotate_left
                  · simp only [Act.put, List.setIfInBounds_toArray, List.set_cons_zero, List.set_cons_succ, i64_w, i32_w]
                    rfl
                  exact norm_ (by simp only [putAll, Act.put, List.setIfInBounds_toArray, List.set_cons_zero, List.set_cons_succ]) (hCont (v324, .slice Ao29 y326.length co29, gb329) _ ⟨hHeld, (Rb HO328.out), (Bb BK318.out), (Bb BK319.out), (Bb BK320.out), (Bb BK321.out), (Bb BK329.out), GW329.out, GE329.out, NB318_329.out, NB329_318.out, NB319_329.out, NB329_319.out, NB320_329.out, NB329_320.out, NB321_329.out, NB329_321.out, (Hb HB.out)⟩)
              · skip
                refine box_step ?hg (N := 10) ?hd (cs := #[.int .u64 0, .slice none 0 0]) (t := 25) ?hr ?_; (case hd => rfl); (case hg => rfl); (case hr => first | (go_simp; done) | (go_simp; rfl))
                intro gb329 hg w25 hbox hb
                have n0_ := Aside0.mk (blk_below (Bb BK318.out) hb)
                have n1_ := Aside0.mk (blk_below (Bb BK319.out) hb)
                have n2_ := Aside0.mk (blk_below (Bb BK320.out) hb)
                have n3_ := Aside0.mk (blk_below (Bb BK321.out) hb)
                have n4_ := Aside0.mk (below_step (Hb HB.out) hb)
                have n5_ := Aside0.mk (hbox)
                have n6_ := Aside0.mk ((by rw [hg]; exact (below_size (Hb HB.out)) : w.heap.size ≤ gb329))
                have n7_ := Aside0.mk ((by rw [hg]; exact (below_size (Hb HB.out)) : w.heap.size ≤ gb329))
                have n8_ := Aside0.mk ((by rw [hg]; exact Nat.ne_of_lt (blk_lt (g := gb318) (o := .cells #[.int .u64 a0_0, .slice A0_1 l0_1.length c0_1] 25 (0, 0)) (Bb BK318.out)) : gb318 ≠ gb329))
                have n9_ := Aside0.mk ((by rw [hg]; exact Nat.ne_of_gt (blk_lt (g := gb318) (o := .cells #[.int .u64 a0_0, .slice A0_1 l0_1.length c0_1] 25 (0, 0)) (Bb BK318.out)) : gb329 ≠ gb318))
                have n10_ := Aside0.mk ((by rw [hg]; exact Nat.ne_of_lt (blk_lt (g := gb319) (o := .cells #[.int .i64 a1_0, .int .u64 a1_1] 32 (0, 0)) (Bb BK319.out)) : gb319 ≠ gb329))
                have n11_ := Aside0.mk ((by rw [hg]; exact Nat.ne_of_gt (blk_lt (g := gb319) (o := .cells #[.int .i64 a1_0, .int .u64 a1_1] 32 (0, 0)) (Bb BK319.out)) : gb329 ≠ gb319))
                have n12_ := Aside0.mk ((by rw [hg]; exact Nat.ne_of_lt (blk_lt (g := gb320) (o := .cells #[.int .i64 a2_0, .int .u64 a2_1] 32 (0, 0)) (Bb BK320.out)) : gb320 ≠ gb329))
                have n13_ := Aside0.mk ((by rw [hg]; exact Nat.ne_of_gt (blk_lt (g := gb320) (o := .cells #[.int .i64 a2_0, .int .u64 a2_1] 32 (0, 0)) (Bb BK320.out)) : gb329 ≠ gb320))
                have n14_ := Aside0.mk ((by rw [hg]; exact Nat.ne_of_lt (blk_lt (g := gb321) (o := .cells #[.int .u64 0, .slice none 0 0] 25 (0, 0)) (Bb BK321.out)) : gb321 ≠ gb329))
                have n15_ := Aside0.mk ((by rw [hg]; exact Nat.ne_of_gt (blk_lt (g := gb321) (o := .cells #[.int .u64 0, .slice none 0 0] 25 (0, 0)) (Bb BK321.out)) : gb329 ≠ gb321))
                clear BK318
                clear BK319
                clear BK320
                clear BK321
                clear HB
                have BK318 := n0_
                have BK319 := n1_
                have BK320 := n2_
                have BK321 := n3_
                have HB := n4_
                have BK329 := n5_
                have GW329 := n6_
                have GE329 := n7_
                have NB318_329 := n8_
                have NB329_318 := n9_
                have NB319_329 := n10_
                have NB329_319 := n11_
                have NB320_329 := n12_
                have NB329_320 := n13_
                have NB321_329 := n14_
                have NB329_321 := n15_
                clear n0_ n1_ n2_ n3_ n4_ n5_ n6_ n7_ n8_ n9_ n10_ n11_ n12_ n13_ n14_ n15_
                clear hb hbox hg
                refine hK.out _ _ ⟨(blk_cell BK318.out 0).trans rfl, (blk_cell BK318.out 1).trans rfl⟩ (fun hHeld => ?_)
                clear hK K
                refine norm_ (a' := ?_) ?_ ?_
                rotate_left
                · show Act.put _ (some 10) _ = _
                  simp only [Act.put, List.setIfInBounds_toArray, List.set_cons_zero, List.set_cons_succ, i64_w, i32_w]
                  rfl
                refine one_ (i := 2) (N := some 33) #[true, true, true, true, true, false, false, true, false] rfl rfl (one_of HT_.out (by kernel_rfl)) (by decide) (fun K hK => ?_)
                refine Kd.R_lit_step k32 _ 32 ?hg (N := 33) ?hd (xs := ([] : List (S32))) (inner := []) (ok := fun _ => True) (okp := fun _ => True) ?hr ?hp (fun _ hk => hk) trivial (Below.refl _ _) (Nat.le_refl _) (by simp) ?_; (case hd => rfl); (case hg => rfl); (case hr => first | (go_simp; done) | (go_simp; rfl)); (case hp => exact (Reps.none _ _))
                intro v324 w26 ho27 hb hg_ hnew_
                clear hg_ hnew_
                (first | rw [← Ny323.out] at ho27 | (simp only [Int.reduceToNat] at ho27; rw [← Ny323.out] at ho27))
                have n0_ := Aside0.mk (Kd.R_lower (Kd.R_newB (Kd.R_newB ho27 (g := gb319) (o := .cells #[.int .i64 a1_0, .int .u64 a1_1] 32 (0, 0)) (Bb BK319.out)) (g := gb320) (o := .cells #[.int .i64 a2_0, .int .u64 a2_1] 32 (0, 0)) (Bb BK320.out)) (below_size (Hb HB.out)))
                have n1_ := Aside0.mk (blk_below (Bb BK318.out) hb)
                have n2_ := Aside0.mk (blk_below (Bb BK319.out) hb)
                have n3_ := Aside0.mk (blk_below (Bb BK320.out) hb)
                have n4_ := Aside0.mk (blk_below (Bb BK321.out) hb)
                have n5_ := Aside0.mk (blk_below (Bb BK329.out) hb)
                have n6_ := Aside0.mk (below_step (Hb HB.out) hb)
                clear BK318
                clear BK319
                clear BK320
                clear BK321
                clear BK329
                clear HB
                have HO325 := n0_
                have BK318 := n1_
                have BK319 := n2_
                have BK320 := n3_
                have BK321 := n4_
                have BK329 := n5_
                have HB := n6_
                clear n0_ n1_ n2_ n3_ n4_ n5_ n6_
                clear hb ho27
                refine hK.out _ _ ⟨(blk_cell BK318.out 0).trans rfl, (blk_cell BK318.out 1).trans rfl⟩ (fun hHeld => ?_)
                clear hK K
                refine norm_ (a' := ?_) ?_ ?_
                rotate_left
                · show Act.put _ (some 33) _ = _
                  simp only [Act.put, List.setIfInBounds_toArray, List.set_cons_zero, List.set_cons_succ, i64_w, i32_w]
                  rfl
                refine one_ (i := 5) (N := some 36) #[true, true, true, true, true, true, false, true, false] rfl rfl (one_of HT_.out (by kernel_rfl)) (by decide) (fun K hK => ?_)
                refine Kd.R_append_rows_step k32 (w0 := w) w.heap.size (by rfl) (.tmp 33) (.tmp 35) 23 32 (.agg #[(.int .i64 0), (.int .u64 0)]) 16 rfl Try.underlying23 info32 rfl (by decide) (by omega) v324 y323 l0_1 _ _ _ (fun k_ => k_ ≠ gb319 ∧ k_ ≠ gb320) (fun _ => False) rfl rfl ?aO ?aR (fun _ _ h => h) (fun _ h => h.elim) ?aF ?aB ?aS ?aL ?_
                (case aR => repeat (first | exact (Kd.C_below HR0_1.out HB.out) | (with_reducible refine Kd.C_alloc ?_ _) | (with_reducible refine Kd.C_drewN ?_ _) | (with_reducible refine Kd.C_drew ?_)))
                (case aB => exact (Hb HB.out))
                (case aF => exact (fun k_ hk => ⟨Kd.freshB (Bb BK319.out) k_ hk, Kd.freshB (Bb BK320.out) k_ hk⟩))
                (case aO => exact (by (with_reducible repeat (first | apply Kd.R_alloc | apply Kd.R_drewN | apply Kd.R_drew)); exact Kd.R_mono HO325.out (fun _ hk => ⟨hk.1.2, hk.2⟩)))
                (case aS => exact (below_size (Hb HB.out)))
                (case aL => have := LMc23.out; omega)
                intro v327 w28 ho hb hg hat
                rw [← Ny326.out] at ho
                have n0_ := Aside0.mk (blk_grown (g := gb318) (o := .cells #[.int .u64 a0_0, .slice A0_1 l0_1.length c0_1] 25 (0, 0)) (Bb BK318.out) hg (Kd.R_ne HO325.out BK318.out (by decide)))
                have n1_ := Aside0.mk (blk_grown (g := gb319) (o := .cells #[.int .i64 a1_0, .int .u64 a1_1] 32 (0, 0)) (Bb BK319.out) hg (Kd.R_away HO325.out (fun _ hk => hk.1.2)))
                have n2_ := Aside0.mk (blk_grown (g := gb320) (o := .cells #[.int .i64 a2_0, .int .u64 a2_1] 32 (0, 0)) (Bb BK320.out) hg (Kd.R_away HO325.out (fun _ hk => hk.2)))
                have n3_ := Aside0.mk (blk_grown (g := gb321) (o := .cells #[.int .u64 0, .slice none 0 0] 25 (0, 0)) (Bb BK321.out) hg (Kd.R_ne HO325.out BK321.out (by decide)))
                have n4_ := Aside0.mk (blk_grown (g := gb329) (o := .cells #[.int .u64 0, .slice none 0 0] 25 (0, 0)) (Bb BK329.out) hg (Kd.R_ne HO325.out BK329.out (by decide)))
                have n5_ := Aside0.mk (hb)
                have n6_ := Aside0.mk (ho)
                clear BK318
                clear BK319
                clear BK320
                clear BK321
                clear BK329
                clear HB
                clear HO325
                have BK318 := n0_
                have BK319 := n1_
                have BK320 := n2_
                have BK321 := n3_
                have BK329 := n4_
                have HB := n5_
                have HO328 := n6_
                clear n0_ n1_ n2_ n3_ n4_ n5_ n6_
                clear ho hb hg hat
                obtain ⟨Ao29, co29, eo29⟩ := Kd.R_slice HO328.out
                (first | subst eo29 | (injection eo29 with f1_ f2_ f3_; have f4_ := f1_.symm; have f5_ := f3_.symm; clear f1_ f2_ f3_; subst f4_; subst f5_))
                refine hK.out _ _ ⟨(blk_cell BK318.out 0).trans rfl, (blk_cell BK318.out 1).trans rfl⟩ (fun hHeld => ?_)
                clear hK K
                refine norm_ (a' := ?_) ?_ ?_
                rotate_left
                · show Act.put _ (some 36) _ = _
                  simp only [Act.put, List.setIfInBounds_toArray, List.set_cons_zero, List.set_cons_succ, i64_w, i32_w]
                  rfl
                refine pure_ (i := 6) (N := some 37) (v := ?_) (a' := ?_) #[true, true, true, true, true, true, true, true, false] rfl rfl (any_of HT_.out (by kernel_rfl)) (fun _ _ _ h => h) (Or.inl ⟨by rfl, ?_⟩) ?_ ?_
                rotate_left
                · intro w'
                  go_simp
                  with_reducible rfl
                rotate_left
                · simp only [Act.put, List.setIfInBounds_toArray, List.set_cons_zero, List.set_cons_succ, i64_w, i32_w]
                  rfl
                exact norm_ (by simp only [putAll, Act.put, List.setIfInBounds_toArray, List.set_cons_zero, List.set_cons_succ]) (hCont (v324, .slice Ao29 y326.length co29, gb329) _ ⟨hHeld, (Rb HO328.out), (Bb BK318.out), (Bb BK319.out), (Bb BK320.out), (Bb BK321.out), (Bb BK329.out), GW329.out, GE329.out, NB318_329.out, NB329_318.out, NB319_329.out, NB329_319.out, NB320_329.out, NB329_320.out, NB321_329.out, NB329_321.out, (Hb HB.out)⟩)
            rintro ⟨v324, v327, gb329⟩ w30 ⟨hS_, h0_, h1_, h2_, h3_, h4_, h5_, h6_, h7_, h8_, h9_, h10_, h11_, h12_, h13_, h14_, h15_, h16_⟩
            have n0_ : Aside0 (Kd.R k32 32 w30 w.heap.size (fun k_ => k_ ≠ gb319 ∧ k_ ≠ gb320) v327 y326) := ⟨h0_⟩
            have n1_ : Aside0 (w30.heap[gb318]? = some (.cells #[.int .u64 a0_0, .slice A0_1 l0_1.length c0_1] 25 (0, 0))) := ⟨h1_⟩
            have n2_ : Aside0 (w30.heap[gb319]? = some (.cells #[.int .i64 a1_0, .int .u64 a1_1] 32 (0, 0))) := ⟨h2_⟩
            have n3_ : Aside0 (w30.heap[gb320]? = some (.cells #[.int .i64 a2_0, .int .u64 a2_1] 32 (0, 0))) := ⟨h3_⟩
            have n4_ : Aside0 (w30.heap[gb321]? = some (.cells #[.int .u64 0, .slice none 0 0] 25 (0, 0))) := ⟨h4_⟩
            have n5_ : Aside0 (w30.heap[gb329]? = some (.cells #[.int .u64 0, .slice none 0 0] 25 (0, 0))) := ⟨h5_⟩
            have n6_ : Aside0 (w.heap.size ≤ gb329) := ⟨h6_⟩
            have n7_ : Aside0 (w.heap.size ≤ gb329) := ⟨h7_⟩
            have n8_ : Aside0 (gb318 ≠ gb329) := ⟨h8_⟩
            have n9_ : Aside0 (gb329 ≠ gb318) := ⟨h9_⟩
            have n10_ : Aside0 (gb319 ≠ gb329) := ⟨h10_⟩
            have n11_ : Aside0 (gb329 ≠ gb319) := ⟨h11_⟩
            have n12_ : Aside0 (gb320 ≠ gb329) := ⟨h12_⟩
            have n13_ : Aside0 (gb329 ≠ gb320) := ⟨h13_⟩
            have n14_ : Aside0 (gb321 ≠ gb329) := ⟨h14_⟩
            have n15_ : Aside0 (gb329 ≠ gb321) := ⟨h15_⟩
            have n16_ : Aside0 (Below w.heap.size w w30) := ⟨h16_⟩
            clear BK318
            clear BK319
            clear BK320
            clear BK321
            clear HB
            clear h0_ h1_ h2_ h3_ h4_ h5_ h6_ h7_ h8_ h9_ h10_ h11_ h12_ h13_ h14_ h15_ h16_
            have HO328 := n0_
            have BK318 := n1_
            have BK319 := n2_
            have BK320 := n3_
            have BK321 := n4_
            have BK329 := n5_
            have GW329 := n6_
            have GE329 := n7_
            have NB318_329 := n8_
            have NB329_318 := n9_
            have NB319_329 := n10_
            have NB329_319 := n11_
            have NB320_329 := n12_
            have NB329_320 := n13_
            have NB321_329 := n14_
            have NB329_321 := n15_
            have HB := n16_
            clear n0_ n1_ n2_ n3_ n4_ n5_ n6_ n7_ n8_ n9_ n10_ n11_ n12_ n13_ n14_ n15_ n16_
            have hHeld : w30.cell? ⟨gb318, 0, none⟩ = some (.int .u64 a0_0) ∧ w30.cell? ⟨gb318, 1, none⟩ = some (.slice A0_1 l0_1.length c0_1) := hS_
            obtain ⟨Ao31, co31, eo31⟩ := Kd.R_slice HO328.out
            (first | subst eo31 | (injection eo31 with f1_ f2_ f3_; have f4_ := f1_.symm; have f5_ := f3_.symm; clear f1_ f2_ f3_; subst f4_; subst f5_))
            refine norm_ (a' := ?_) ?_ ?_
            rotate_left
            · simp only [putAll, Act.put, List.setIfInBounds_toArray, List.set_cons_zero, List.set_cons_succ]
              rfl
            refine one_ (i := 8) (N := none) #[true, true, true, true, true, true, true, true, true] rfl rfl (one_of HT_.out (by kernel_rfl)) (by decide) (fun K hK => ?_)
            have hs32 : w30.cell? ⟨gb329, 0, none⟩ = some (.int .u64 0) := (blk_cell BK329.out 0).trans rfl
            have hfs32 := blk_frozen BK329.out 0
            have hns32_0 := NB318_329.out
            have hns32_1 := NB319_329.out
            have hns32_2 := NB320_329.out
            have hns32_3 := NB321_329.out
            have hms32_0 := NB329_318.out
            have hms32_1 := NB329_319.out
            have hms32_2 := NB329_320.out
            have hms32_3 := NB329_321.out
            have hs33 : w30.cell? ⟨gb329, 1, none⟩ = some (.slice none 0 0) := (blk_cell BK329.out 1).trans rfl
            have hfs33 := blk_frozen BK329.out 1
            have hns33_0 := NB318_329.out
            have hns33_1 := NB319_329.out
            have hns33_2 := NB320_329.out
            have hns33_3 := NB321_329.out
            have hms33_0 := NB329_318.out
            have hms33_1 := NB329_319.out
            have hms33_2 := NB329_320.out
            have hms33_3 := NB329_321.out
            refine skip_ (w1 := ?_) (by rfl) rfl ?_ ?_
            rotate_left
            · go_simp
              rfl
            refine hK.out _ _ ⟨((cell_far (p := ⟨gb329, _, none⟩) NB318_329.out _).trans (((cell_far (p := ⟨gb329, _, none⟩) NB318_329.out _).trans (hHeld.1)))), ((cell_far (p := ⟨gb329, _, none⟩) NB318_329.out _).trans (((cell_far (p := ⟨gb329, _, none⟩) NB318_329.out _).trans (hHeld.2))))⟩ (fun hHeld => ?_)
            clear hK K
            refine done_ (done_of HT_.out (by kernel_rfl)) ?_
            try go_wp2
            go_loopg [11] k1 (fun kq v11 w' => ∃ (x11_2 : Int) (x322000_2 : Int), v11 = .int .i64 x11_2 ∧ Aside0 (scrivenerref14_Swap.l1 kq x8_1 x11_2 a2_0 a2_1 a0_0 y326 = some (r1, r2, r3)) ∧ Aside0 (kq ≤ k1) ∧ Aside0 (Kd.R k32 32 w' w.heap.size (fun k_ => k_ ≠ gb319 ∧ k_ ≠ gb320) (.slice Ao31 y326.length co31) y326) ∧ Aside0 (w'.heap[gb318]? = some (.cells #[.int .u64 a0_0, (.slice A0_1 l0_1.length c0_1)] 25 (0, 0))) ∧ Aside0 (w'.heap[gb319]? = some (.cells #[.int .i64 a1_0, .int .u64 a1_1] 32 (0, 0))) ∧ Aside0 (w'.heap[gb320]? = some (.cells #[.int .i64 a2_0, .int .u64 a2_1] 32 (0, 0))) ∧ Aside0 (w'.heap[gb321]? = some (.cells #[.int .u64 x322000_2, (.slice none 0 0)] 25 (0, 0))) ∧ Aside0 (w'.heap[gb329]? = some (.cells #[.int .u64 a0_0, (.slice Ao31 y326.length co31)] 25 (0, 0))) ∧ Aside0 (Below w.heap.size w w'))
            case atStart => exact ⟨(0), (0), (by first | rfl | (simp; done) | (simp [*]; done)), H', ⟨Nat.le_refl _⟩, ⟨by (with_reducible repeat (first | apply Kd.R_alloc | apply Kd.R_drewN | apply Kd.R_drew)); exact Kd.R_mono (Kd.R_far (p := ⟨gb329, 1, none⟩) (Kd.R_far (p := ⟨gb329, 0, none⟩) (Kd.R_types HO328.out BK329.out (by decide)) (fun _ hk => hk.2) (.int .u64 a0_0)) (fun _ hk => hk.2) (.slice Ao31 y326.length co31)) (fun _ hk => ⟨hk.1.1, hk.1.2⟩)⟩, ⟨by (with_reducible repeat (first | refine blk_drewN ?_ _ | refine blk_drew ?_ | refine blk_alloc ?_ _)); refine blk_far ?_ NB318_329.out _; (with_reducible repeat (first | refine blk_drewN ?_ _ | refine blk_drew ?_ | refine blk_alloc ?_ _)); refine blk_far ?_ NB318_329.out _; (with_reducible repeat (first | refine blk_drewN ?_ _ | refine blk_drew ?_ | refine blk_alloc ?_ _)); exact BK318.out⟩, ⟨by (with_reducible repeat (first | refine blk_drewN ?_ _ | refine blk_drew ?_ | refine blk_alloc ?_ _)); refine blk_far ?_ NB319_329.out _; (with_reducible repeat (first | refine blk_drewN ?_ _ | refine blk_drew ?_ | refine blk_alloc ?_ _)); refine blk_far ?_ NB319_329.out _; (with_reducible repeat (first | refine blk_drewN ?_ _ | refine blk_drew ?_ | refine blk_alloc ?_ _)); exact BK319.out⟩, ⟨by (with_reducible repeat (first | refine blk_drewN ?_ _ | refine blk_drew ?_ | refine blk_alloc ?_ _)); refine blk_far ?_ NB320_329.out _; (with_reducible repeat (first | refine blk_drewN ?_ _ | refine blk_drew ?_ | refine blk_alloc ?_ _)); refine blk_far ?_ NB320_329.out _; (with_reducible repeat (first | refine blk_drewN ?_ _ | refine blk_drew ?_ | refine blk_alloc ?_ _)); exact BK320.out⟩, ⟨by (with_reducible repeat (first | refine blk_drewN ?_ _ | refine blk_drew ?_ | refine blk_alloc ?_ _)); refine blk_far ?_ NB321_329.out _; (with_reducible repeat (first | refine blk_drewN ?_ _ | refine blk_drew ?_ | refine blk_alloc ?_ _)); refine blk_far ?_ NB321_329.out _; (with_reducible repeat (first | refine blk_drewN ?_ _ | refine blk_drew ?_ | refine blk_alloc ?_ _)); exact BK321.out⟩, ⟨by (with_reducible repeat (first | refine blk_drewN ?_ _ | refine blk_drew ?_ | refine blk_alloc ?_ _)); refine blk_put (cs := #[.int .u64 a0_0, .slice none 0 0]) ?_ 1 _ rfl; (with_reducible repeat (first | refine blk_drewN ?_ _ | refine blk_drew ?_ | refine blk_alloc ?_ _)); refine blk_put (cs := #[.int .u64 0, .slice none 0 0]) ?_ 0 _ rfl; (with_reducible repeat (first | refine blk_drewN ?_ _ | refine blk_drew ?_ | refine blk_alloc ?_ _)); exact BK329.out⟩, ⟨by repeat (first | (with_reducible first | exact HB.out | apply below_alloc | apply pw_below_drewN | apply below_drew1 | refine below_set ?_ GE318.out | refine below_set ?_ GE319.out | refine below_set ?_ GE320.out | refine below_set ?_ GE321.out | refine below_set ?_ GE329.out) | exact HB.out)⟩⟩
            case round =>
              clear H'
              try clear c1
              try clear c2
              try clear p2
              try clear p6
              try clear c12
              try clear c12b0
              try clear c13
              try clear c14
              try clear c18
              try clear c18b0
              try clear c19
              try clear c20
              try clear c21
              try clear c23
              try clear hcz22_0
              try clear hcz22_1
              try clear hfz22_0
              try clear hfz22_1
              obtain ⟨x11_2, x322000_2, rfl, HA, HK2, HO_330001, BK318, BK319, BK320, BK321, BK329, HB⟩ := hrel
              cases gk with
              | zero => exact absurd HA.out (by simp [scrivenerref14_Swap.l1])
              | succ k2 =>
                have H := HA.out
                clear HA
                simp only [scrivenerref14_Swap.l1] at H
                by_cases c34 : x11_2 < (y326.length : Int)
                · rw [if_pos c34] at H
                  have c34b0 : decide (x11_2 < (y326.length : Int)) = true := decide_eq_true c34
                  clear c34
                  by_cases c35 : x11_2 = x8_1
                  · rw [if_pos c35] at H
                    have c35b0 : (x11_2 == x8_1) = true := beq_iff_eq.mpr c35
                    have c35b1 : (x11_2 != x8_1) = false := bne_eq_false_iff_eq.mpr c35
                    clear c35
                    have H' := Aside0.mk H
                    clear H
                    have hnb36 := NB329_318.out
                    have hnc36 := NB318_329.out
                    have hnb37 := NB329_319.out
                    have hnc37 := NB319_329.out
                    have hnb38 := NB329_320.out
                    have hnc38 := NB320_329.out
                    have hnb39 := NB329_321.out
                    have hnc39 := NB321_329.out
                    have hcz40_0 : wr.cell? ⟨gb329, 0, none⟩ = some (.int .u64 a0_0) := (blk_cell BK329.out 0).trans rfl
                    have hcz40_1 : wr.cell? ⟨gb329, 1, none⟩ = some (.slice Ao31 y326.length co31) := (blk_cell BK329.out 1).trans rfl
                    have hfz40_0 := blk_frozen BK329.out 0
                    have hfz40_1 := blk_frozen BK329.out 1
                    try go_wp2
                    have n0_ := Aside0.mk (Kd.R_drew HO_330001.out)
                    have n1_ := Aside0.mk (blk_drew BK318.out)
                    have n2_ := Aside0.mk (blk_drew BK319.out)
                    have n3_ := Aside0.mk (blk_drew BK320.out)
                    have n4_ := Aside0.mk (blk_drew BK321.out)
                    have n5_ := Aside0.mk (blk_drew BK329.out)
                    have n6_ := Aside0.mk (below_drew1 HB.out)
                    clear HO_330001
                    clear BK318
                    clear BK319
                    clear BK320
                    clear BK321
                    clear BK329
                    clear HB
                    have HO_330001 := n0_
                    have BK318 := n1_
                    have BK319 := n2_
                    have BK320 := n3_
                    have BK321 := n4_
                    have BK329 := n5_
                    have HB := n6_
                    clear n0_ n1_ n2_ n3_ n4_ n5_ n6_
                    refine start_ (n := 14) (S := fun w' => True) (ds := []) #[false, false, false, false, false, false, false, false, false, false, false, false, false, false] (by kernel_rfl) rfl rfl trivial (fun hHeld => ?_); refine with_tabW scrivenerref14_Swap.tab13 scrivenerref14_Swap.bits13 (fun HT_ HW_ => ?_)
                    generalize wr.drew = w41 at HO_330001 BK318 BK319 BK320 BK321 BK329 HB hHeld ⊢
                    refine pure_ (i := 0) (N := some 45) (v := ?_) (a' := ?_) #[true, false, false, false, false, false, false, false, false, false, false, false, false, false] rfl rfl (any_of HT_.out (by kernel_rfl)) (fun _ _ _ h => h) (Or.inl ⟨by rfl, ?_⟩) ?_ ?_
                    rotate_left
                    · intro w'
                      go_simp
                      with_reducible rfl
                    rotate_left
                    · simp only [Act.put, List.setIfInBounds_toArray, List.set_cons_zero, List.set_cons_succ, i64_w, i32_w]
                      rfl
                    refine pure_ (i := 1) (N := some 46) (v := ?_) (a' := ?_) #[true, true, false, false, false, false, false, false, false, false, false, false, false, false] rfl rfl (any_of HT_.out (by kernel_rfl)) (fun _ _ _ h => h) (Or.inl ⟨by rfl, ?_⟩) ?_ ?_
                    rotate_left
                    · intro w'
                      go_simp
                      with_reducible rfl
                    rotate_left
                    · simp only [Act.put, List.setIfInBounds_toArray, List.set_cons_zero, List.set_cons_succ, i64_w, i32_w]
                      rfl
                    refine pure_ (i := 2) (N := some 47) (v := ?_) (a' := ?_) #[true, true, true, false, false, false, false, false, false, false, false, false, false, false] rfl rfl (any_of HT_.out (by kernel_rfl)) (fun _ _ _ h => h) (Or.inl ⟨by rfl, ?_⟩) ?_ ?_
                    rotate_left
                    · intro w'
                      go_simp
                      with_reducible rfl
                    rotate_left
                    · simp only [Act.put, List.setIfInBounds_toArray, List.set_cons_zero, List.set_cons_succ, i64_w, i32_w]
                      rfl
                    refine pure_ (i := 3) (N := some 48) (v := ?_) (a' := ?_) #[true, true, true, true, false, false, false, false, false, false, false, false, false, false] rfl rfl (any_of HT_.out (by kernel_rfl)) (fun _ _ _ h => h) (Or.inl ⟨by rfl, ?_⟩) ?_ ?_
                    rotate_left
                    · intro w'
                      go_simp
                      with_reducible rfl
                    rotate_left
                    · simp only [Act.put, List.setIfInBounds_toArray, List.set_cons_zero, List.set_cons_succ, i64_w, i32_w]
                      rfl
                    refine pure_ (i := 4) (N := some 49) (v := undef) (a' := ?_) #[true, true, true, true, true, false, false, false, false, false, false, false, false, false] rfl rfl (any_of HT_.out (by kernel_rfl)) (fun _ _ _ h => h) (Or.inr ⟨by rfl, rfl⟩) ?_ ?_
                    rotate_left
                    · simp only [Act.put, List.setIfInBounds_toArray, List.set_cons_zero, List.set_cons_succ, i64_w, i32_w]
                      rfl
                    refine pure_ (i := 5) (N := some 50) (v := undef) (a' := ?_) #[true, true, true, true, true, true, false, false, false, false, false, false, false, false] rfl rfl (any_of HT_.out (by kernel_rfl)) (fun _ _ _ h => h) (Or.inr ⟨by rfl, rfl⟩) ?_ ?_
                    rotate_left
                    · simp only [Act.put, List.setIfInBounds_toArray, List.set_cons_zero, List.set_cons_succ, i64_w, i32_w]
                      rfl
                    refine pure_ (i := 6) (N := some 51) (v := undef) (a' := ?_) #[true, true, true, true, true, true, true, false, false, false, false, false, false, false] rfl rfl (any_of HT_.out (by kernel_rfl)) (fun _ _ _ h => h) (Or.inr ⟨by rfl, rfl⟩) ?_ ?_
                    rotate_left
                    · simp only [Act.put, List.setIfInBounds_toArray, List.set_cons_zero, List.set_cons_succ, i64_w, i32_w]
                      rfl
                    refine pure_ (i := 7) (N := some 52) (v := undef) (a' := ?_) #[true, true, true, true, true, true, true, true, false, false, false, false, false, false] rfl rfl (any_of HT_.out (by kernel_rfl)) (fun _ _ _ h => h) (Or.inr ⟨by rfl, rfl⟩) ?_ ?_
                    rotate_left
                    · simp only [Act.put, List.setIfInBounds_toArray, List.set_cons_zero, List.set_cons_succ, i64_w, i32_w]
                      rfl
                    refine pure_ (i := 8) (N := some 53) (v := undef) (a' := ?_) #[true, true, true, true, true, true, true, true, true, false, false, false, false, false] rfl rfl (any_of HT_.out (by kernel_rfl)) (fun _ _ _ h => h) (Or.inr ⟨by rfl, rfl⟩) ?_ ?_
                    rotate_left
                    · simp only [Act.put, List.setIfInBounds_toArray, List.set_cons_zero, List.set_cons_succ, i64_w, i32_w]
                      rfl
                    refine pure_ (i := 9) (N := some 54) (v := undef) (a' := ?_) #[true, true, true, true, true, true, true, true, true, true, false, false, false, false] rfl rfl (any_of HT_.out (by kernel_rfl)) (fun _ _ _ h => h) (Or.inr ⟨by rfl, rfl⟩) ?_ ?_
                    rotate_left
                    · simp only [Act.put, List.setIfInBounds_toArray, List.set_cons_zero, List.set_cons_succ, i64_w, i32_w]
                      rfl
                    refine pure_ (i := 10) (N := some 55) (v := undef) (a' := ?_) #[true, true, true, true, true, true, true, true, true, true, true, false, false, false] rfl rfl (any_of HT_.out (by kernel_rfl)) (fun _ _ _ h => h) (Or.inr ⟨by rfl, rfl⟩) ?_ ?_
                    rotate_left
                    · simp only [Act.put, List.setIfInBounds_toArray, List.set_cons_zero, List.set_cons_succ, i64_w, i32_w]
                      rfl
                    refine pure_ (i := 11) (N := some 56) (v := undef) (a' := ?_) #[true, true, true, true, true, true, true, true, true, true, true, true, false, false] rfl rfl (any_of HT_.out (by kernel_rfl)) (fun _ _ _ h => h) (Or.inr ⟨by rfl, rfl⟩) ?_ ?_
                    rotate_left
                    · simp only [Act.put, List.setIfInBounds_toArray, List.set_cons_zero, List.set_cons_succ, i64_w, i32_w]
                      rfl
                    refine pure_ (i := 12) (N := some 57) (v := undef) (a' := ?_) #[true, true, true, true, true, true, true, true, true, true, true, true, true, false] rfl rfl (any_of HT_.out (by kernel_rfl)) (fun _ _ _ h => h) (Or.inr ⟨by rfl, rfl⟩) ?_ ?_
                    rotate_left
                    · simp only [Act.put, List.setIfInBounds_toArray, List.set_cons_zero, List.set_cons_succ, i64_w, i32_w]
                      rfl
                    refine pure_ (i := 13) (N := some 58) (v := ?_) (a' := ?_) #[true, true, true, true, true, true, true, true, true, true, true, true, true, true] rfl rfl (any_of HT_.out (by kernel_rfl)) (fun _ _ _ h => h) (Or.inl ⟨by rfl, ?_⟩) ?_ ?_
                    rotate_left
                    · intro w'
                      go_simp
                      with_reducible rfl
                    rotate_left
                    · simp only [Act.put, List.setIfInBounds_toArray, List.set_cons_zero, List.set_cons_succ, i64_w, i32_w]
                      rfl
                    refine done_ (done_of HT_.out (by kernel_rfl)) ?_
                    try go_wp2
                    go_roundg k2
                    case measure => have := HK1.out; have := HK2.out; omega
                    case rel => exact ⟨(wrap64 (x11_2 + 1)), (x322000_2), (by first | rfl | (simp; done) | (simp [*]; done)), H', ⟨by have := HK1.out; have := HK2.out; omega⟩, ⟨by (with_reducible repeat (first | apply Kd.R_alloc | apply Kd.R_drewN | apply Kd.R_drew)); exact HO_330001.out⟩, ⟨by (with_reducible repeat (first | refine blk_drewN ?_ _ | refine blk_drew ?_ | refine blk_alloc ?_ _)); exact BK318.out⟩, ⟨by (with_reducible repeat (first | refine blk_drewN ?_ _ | refine blk_drew ?_ | refine blk_alloc ?_ _)); exact BK319.out⟩, ⟨by (with_reducible repeat (first | refine blk_drewN ?_ _ | refine blk_drew ?_ | refine blk_alloc ?_ _)); exact BK320.out⟩, ⟨by (with_reducible repeat (first | refine blk_drewN ?_ _ | refine blk_drew ?_ | refine blk_alloc ?_ _)); exact BK321.out⟩, ⟨by (with_reducible repeat (first | refine blk_drewN ?_ _ | refine blk_drew ?_ | refine blk_alloc ?_ _)); exact BK329.out⟩, ⟨by repeat (first | (with_reducible first | exact HB.out | apply below_alloc | apply pw_below_drewN | apply below_drew1 | refine below_set ?_ GE318.out | refine below_set ?_ GE319.out | refine below_set ?_ GE320.out | refine below_set ?_ GE321.out | refine below_set ?_ GE329.out) | exact HB.out)⟩⟩
                  · rw [if_neg c35] at H
                    have c35b0 : (x11_2 == x8_1) = false := beq_eq_false_iff_ne.mpr c35
                    have c35b1 : (x11_2 != x8_1) = true := bne_iff_ne.mpr c35
                    by_cases c42 : 0 ≤ x11_2
                    · rw [if_pos c42] at H
                      have c42b0 : decide (0 ≤ x11_2) = true := decide_eq_true c42
                      clear c42
                      by_cases c43 : ((rd_T32 y326 x11_2).f0) = a2_0
                      · rw [if_pos c43] at H
                        have c43b0 : (((rd_T32 y326 x11_2).f0) == a2_0) = true := beq_iff_eq.mpr c43
                        have c43b1 : (((rd_T32 y326 x11_2).f0) != a2_0) = false := bne_eq_false_iff_eq.mpr c43
                        clear c43
                        simp only [Option.some.injEq, Prod.mk.injEq] at H
                        obtain ⟨rfl, rfl, rfl⟩ := H
                        have hnb44 := NB329_318.out
                        have hnc44 := NB318_329.out
                        have hnb45 := NB329_319.out
                        have hnc45 := NB319_329.out
                        have hnb46 := NB329_320.out
                        have hnc46 := NB320_329.out
                        have hnb47 := NB329_321.out
                        have hnc47 := NB321_329.out
                        have hcz48_0 : wr.cell? ⟨gb329, 0, none⟩ = some (.int .u64 a0_0) := (blk_cell BK329.out 0).trans rfl
                        have hcz48_1 : wr.cell? ⟨gb329, 1, none⟩ = some (.slice Ao31 y326.length co31) := (blk_cell BK329.out 1).trans rfl
                        have hfz48_0 := blk_frozen BK329.out 0
                        have hfz48_1 := blk_frozen BK329.out 1
                        try go_wp2
                        have n0_ := Aside0.mk (Kd.R_drew HO_330001.out)
                        have n1_ := Aside0.mk (blk_drew BK318.out)
                        have n2_ := Aside0.mk (blk_drew BK319.out)
                        have n3_ := Aside0.mk (blk_drew BK320.out)
                        have n4_ := Aside0.mk (blk_drew BK321.out)
                        have n5_ := Aside0.mk (blk_drew BK329.out)
                        have n6_ := Aside0.mk (below_drew1 HB.out)
                        clear HO_330001
                        clear BK318
                        clear BK319
                        clear BK320
                        clear BK321
                        clear BK329
                        clear HB
                        have HO_330001 := n0_
                        have BK318 := n1_
                        have BK319 := n2_
                        have BK320 := n3_
                        have BK321 := n4_
                        have BK329 := n5_
                        have HB := n6_
                        clear n0_ n1_ n2_ n3_ n4_ n5_ n6_
                        have p330 : 0 ≤ (x11_2 : Int) := of_decide_eq_true (by first | (with_reducible assumption) | assumption)
                        have q330 : x11_2 < (y326.length : Int) := of_decide_eq_true (by first | (with_reducible assumption) | assumption)
                        try (obtain ⟨Aoz_, coz_, eoz_⟩ := Kd.R_slice HO_330001.out; subst eoz_)
                        obtain ⟨ad330, e330, hx330_0, hx330_1⟩ := at_T32 (Kd.R_reads' HO_330001.out).2.2 x11_2 p330 q330
                        cases e330
                        replace p330 := eq_true p330
                        replace q330 := eq_true q330
                        refine start_ (n := 14) (S := fun w' => w'.cell? ⟨gb329, 0, none⟩ = some (.int .u64 a0_0) ∧ w'.cell? ⟨gb329, 1, none⟩ = some (.slice (some ad330) y326.length co31) ∧ w'.cell? ⟨gb320, 0, none⟩ = some (.int .i64 a2_0) ∧ w'.cell? ⟨gb320, 1, none⟩ = some (.int .u64 a2_1) ∧ w'.cell? (ad330.add ((x11_2).toNat * 2)) = some (.int .i64 ((rd_T32 y326 x11_2).f0)) ∧ w'.cell? ⟨(ad330.add ((x11_2).toNat * 2)).block, (ad330.add ((x11_2).toNat * 2)).off + 1, none⟩ = some (.int .u64 ((rd_T32 y326 x11_2).f1))) (ds := []) #[false, false, false, false, false, false, false, false, false, false, false, false, false, false] (by kernel_rfl) rfl rfl ⟨(blk_cell BK329.out 0).trans rfl, (blk_cell BK329.out 1).trans rfl, (blk_cell BK320.out 0).trans rfl, (blk_cell BK320.out 1).trans rfl, hx330_0, hx330_1⟩ (fun hHeld => ?_); refine with_tabW scrivenerref14_Swap.tab13 scrivenerref14_Swap.bits13 (fun HT_ HW_ => ?_)
                        generalize wr.drew = w49 at HO_330001 BK318 BK319 BK320 BK321 BK329 HB hx330_0 hx330_1 hHeld ⊢
                        refine pure_ (i := 0) (N := some 45) (v := ?_) (a' := ?_) #[true, false, false, false, false, false, false, false, false, false, false, false, false, false] rfl rfl (any_of HT_.out (by kernel_rfl)) (fun _ _ _ h => h) (Or.inl ⟨by rfl, ?_⟩) ?_ ?_
                        rotate_left
                        · intro w'
                          go_simp
                          with_reducible rfl
                        rotate_left
                        · simp only [Act.put, List.setIfInBounds_toArray, List.set_cons_zero, List.set_cons_succ, i64_w, i32_w]
                          rfl
                        refine pure_ (i := 1) (N := some 46) (v := ?_) (a' := ?_) #[true, true, false, false, false, false, false, false, false, false, false, false, false, false] rfl rfl (any_of HT_.out (by kernel_rfl)) (fun _ _ _ h => h) (Or.inl ⟨by rfl, ?_⟩) ?_ ?_
                        rotate_left
                        · intro w'
                          go_simp
                          with_reducible rfl
                        rotate_left
                        · simp only [Act.put, List.setIfInBounds_toArray, List.set_cons_zero, List.set_cons_succ, i64_w, i32_w]
                          rfl
                        refine pure_ (i := 2) (N := some 47) (v := ?_) (a' := ?_) #[true, true, true, false, false, false, false, false, false, false, false, false, false, false] rfl rfl (any_of HT_.out (by kernel_rfl)) (fun _ _ _ h => h) (Or.inl ⟨by rfl, ?_⟩) ?_ ?_
                        rotate_left
                        · intro w'
                          go_simp
                          with_reducible rfl
                        rotate_left
                        · simp only [Act.put, List.setIfInBounds_toArray, List.set_cons_zero, List.set_cons_succ, i64_w, i32_w]
                          rfl
                        refine pure_ (i := 3) (N := some 48) (v := ?_) (a' := ?_) #[true, true, true, true, false, false, false, false, false, false, false, false, false, false] rfl rfl (any_of HT_.out (by kernel_rfl)) (fun _ _ _ h => h) (Or.inl ⟨by rfl, ?_⟩) ?_ ?_
                        rotate_left
                        · intro w'
                          go_simp
                          with_reducible rfl
                        rotate_left
                        · simp only [Act.put, List.setIfInBounds_toArray, List.set_cons_zero, List.set_cons_succ, i64_w, i32_w]
                          rfl
                        refine pure_ (i := 4) (N := some 49) (v := ?_) (a' := ?_) #[true, true, true, true, true, false, false, false, false, false, false, false, false, false] rfl rfl (any_of HT_.out (by kernel_rfl)) (fun _ _ _ h => h) (Or.inl ⟨by rfl, ?_⟩) ?_ ?_
                        rotate_left
                        · intro w'
                          go_simp
                          with_reducible rfl
                        rotate_left
                        · simp only [Act.put, List.setIfInBounds_toArray, List.set_cons_zero, List.set_cons_succ, i64_w, i32_w]
                          rfl
                        refine pure_ (i := 6) (N := some 51) (v := ?_) (a' := ?_) #[true, true, true, true, true, false, true, false, false, false, false, false, false, false] rfl rfl (any_of HT_.out (by kernel_rfl)) (fun _ _ _ h => h) (Or.inl ⟨by rfl, ?_⟩) ?_ ?_
                        rotate_left
                        · intro w'
                          go_simp
                          with_reducible rfl
                        rotate_left
                        · simp only [Act.put, List.setIfInBounds_toArray, List.set_cons_zero, List.set_cons_succ, i64_w, i32_w]
                          rfl
                        refine pure_ (i := 10) (N := some 55) (v := ?_) (a' := ?_) #[true, true, true, true, true, false, true, false, false, false, true, false, false, false] rfl rfl (any_of HT_.out (by kernel_rfl)) (fun _ _ _ h => h) (Or.inl ⟨by rfl, ?_⟩) ?_ ?_
                        rotate_left
                        · intro w'
                          go_simp
                          with_reducible rfl
                        rotate_left
                        · simp only [Act.put, List.setIfInBounds_toArray, List.set_cons_zero, List.set_cons_succ, i64_w, i32_w]
                          rfl
                        refine take_ (i := 5) (N := some 50) (v := ?_) (a' := ?_) #[true, true, true, true, true, true, true, false, false, false, true, false, false, false] rfl rfl (take_ofW HT_.out HW_.out (by kernel_rfl)) (fun _ _ _ h => h) (Or.inl ⟨by rfl, ?_⟩) hHeld ?_ ?_
                        rotate_left
                        · rintro w' ⟨s0, s1, s2, s3, s4, s5⟩
                          go_simp
                          with_reducible rfl
                        rotate_left
                        · simp only [Act.put, List.setIfInBounds_toArray, List.set_cons_zero, List.set_cons_succ, i64_w, i32_w]
                          rfl
                        refine pure_ (i := 7) (N := some 52) (v := ?_) (a' := ?_) #[true, true, true, true, true, true, true, true, false, false, true, false, false, false] rfl rfl (any_of HT_.out (by kernel_rfl)) (fun _ _ _ h => h) (Or.inl ⟨by rfl, ?_⟩) ?_ ?_
                        rotate_left
                        · intro w'
                          go_simp
                          with_reducible rfl
                        rotate_left
                        · simp only [Act.put, List.setIfInBounds_toArray, List.set_cons_zero, List.set_cons_succ, i64_w, i32_w]
                          rfl
                        refine pure_ (i := 8) (N := some 53) (v := ?_) (a' := ?_) #[true, true, true, true, true, true, true, true, true, false, true, false, false, false] rfl rfl (any_of HT_.out (by kernel_rfl)) (fun _ _ _ h => h) (Or.inl ⟨by rfl, ?_⟩) ?_ ?_
                        rotate_left
                        · intro w'
                          go_simp
                          with_reducible rfl
                        rotate_left
                        · simp only [Act.put, List.setIfInBounds_toArray, List.set_cons_zero, List.set_cons_succ, i64_w, i32_w]
                          rfl
                        refine take_ (i := 9) (N := some 54) (v := ?_) (a' := ?_) #[true, true, true, true, true, true, true, true, true, true, true, false, false, false] rfl rfl (take_ofW HT_.out HW_.out (by kernel_rfl)) (fun _ _ _ h => h) (Or.inl ⟨by rfl, ?_⟩) hHeld ?_ ?_
                        rotate_left
                        · rintro w' ⟨s0, s1, s2, s3, s4, s5⟩
                          go_simp
                          with_reducible rfl
                        rotate_left
                        · simp only [Act.put, List.setIfInBounds_toArray, List.set_cons_zero, List.set_cons_succ, i64_w, i32_w]
                          rfl
                        refine take_ (i := 11) (N := some 56) (v := ?_) (a' := ?_) #[true, true, true, true, true, true, true, true, true, true, true, true, false, false] rfl rfl (take_ofW HT_.out HW_.out (by kernel_rfl)) (fun _ _ _ h => h) (Or.inl ⟨by rfl, ?_⟩) hHeld ?_ ?_
                        rotate_left
                        · rintro w' ⟨s0, s1, s2, s3, s4, s5⟩
                          go_simp
                          with_reducible rfl
                        rotate_left
                        · simp only [Act.put, List.setIfInBounds_toArray, List.set_cons_zero, List.set_cons_succ, i64_w, i32_w]
                          rfl
                        refine pure_ (i := 12) (N := some 57) (v := ?_) (a' := ?_) #[true, true, true, true, true, true, true, true, true, true, true, true, true, false] rfl rfl (any_of HT_.out (by kernel_rfl)) (fun _ _ _ h => h) (Or.inl ⟨by rfl, ?_⟩) ?_ ?_
                        rotate_left
                        · intro w'
                          go_simp
                          with_reducible rfl
                        rotate_left
                        · simp only [Act.put, List.setIfInBounds_toArray, List.set_cons_zero, List.set_cons_succ, i64_w, i32_w]
                          rfl
                        refine pure_ (i := 13) (N := some 58) (v := ?_) (a' := ?_) #[true, true, true, true, true, true, true, true, true, true, true, true, true, true] rfl rfl (any_of HT_.out (by kernel_rfl)) (fun _ _ _ h => h) (Or.inl ⟨by rfl, ?_⟩) ?_ ?_
                        rotate_left
                        · intro w'
                          go_simp
                          with_reducible rfl
                        rotate_left
                        · simp only [Act.put, List.setIfInBounds_toArray, List.set_cons_zero, List.set_cons_succ, i64_w, i32_w]
                          rfl
                        refine done_ (done_of HT_.out (by kernel_rfl)) ?_
                        have hnb50 := NB321_318.out
                        have hnc50 := NB318_321.out
                        have hnb51 := NB321_319.out
                        have hnc51 := NB319_321.out
                        have hnb52 := NB321_320.out
                        have hnc52 := NB320_321.out
                        have hcz53_0 : w49.cell? ⟨gb321, 0, none⟩ = some (.int .u64 x322000_2) := (blk_cell BK321.out 0).trans rfl
                        have hcz53_1 : w49.cell? ⟨gb321, 1, none⟩ = some (.slice none 0 0) := (blk_cell BK321.out 1).trans rfl
                        have hfz53_0 := blk_frozen BK321.out 0
                        have hfz53_1 := blk_frozen BK321.out 1
                        try go_wp2
                        refine bodyPost_ret (results_ct rfl _ _ gb321 25 #[.int .u64 0, .slice none 0 0] (0, 0) _ rfl (by (with_reducible repeat (first | refine blk_drewN ?_ _ | refine blk_drew ?_ | refine blk_alloc ?_ _)); refine blk_put (cs := #[.int .u64 0, .slice none 0 0]) ?_ 1 _ rfl; (with_reducible repeat (first | refine blk_drewN ?_ _ | refine blk_drew ?_ | refine blk_alloc ?_ _)); refine blk_put (cs := #[.int .u64 x322000_2, .slice none 0 0]) ?_ 0 _ rfl; (with_reducible repeat (first | refine blk_drewN ?_ _ | refine blk_drew ?_ | refine blk_alloc ?_ _)); exact BK321.out) Try.underlying25 rfl (by kernel_rfl)) rfl ?_
                        exact ⟨_, by first | rfl | (simp [errW_none, errW_some] <;> rfl) | (simp [*, errW_none, errW_some] <;> rfl), by first | exact Kd.R_nil _ _ _ _ _ | exact Kd.N_nil _ _ _ _ _ | exact Kd.V_nil _ _ _ _ _ | exact Kd.Q_nil _ _ _ _ _ | exact Kd.S_nil _ _ _ _ _, by repeat (first | (with_reducible first | exact HB.out | apply below_alloc | apply pw_below_drewN | apply below_drew1 | refine below_set ?_ GE318.out | refine below_set ?_ GE319.out | refine below_set ?_ GE320.out | refine below_set ?_ GE321.out | refine below_set ?_ GE329.out) | exact HB.out)⟩
                      · rw [if_neg c43] at H
                        have c43b0 : (((rd_T32 y326 x11_2).f0) == a2_0) = false := beq_eq_false_iff_ne.mpr c43
                        have c43b1 : (((rd_T32 y326 x11_2).f0) != a2_0) = true := bne_iff_ne.mpr c43
                        have H' := Aside0.mk H
                        clear H
                        have hnb54 := NB329_318.out
                        have hnc54 := NB318_329.out
                        have hnb55 := NB329_319.out
                        have hnc55 := NB319_329.out
                        have hnb56 := NB329_320.out
                        have hnc56 := NB320_329.out
                        have hnb57 := NB329_321.out
                        have hnc57 := NB321_329.out
                        have hcz58_0 : wr.cell? ⟨gb329, 0, none⟩ = some (.int .u64 a0_0) := (blk_cell BK329.out 0).trans rfl
                        have hcz58_1 : wr.cell? ⟨gb329, 1, none⟩ = some (.slice Ao31 y326.length co31) := (blk_cell BK329.out 1).trans rfl
                        have hfz58_0 := blk_frozen BK329.out 0
                        have hfz58_1 := blk_frozen BK329.out 1
                        try go_wp2
                        have n0_ := Aside0.mk (Kd.R_drew HO_330001.out)
                        have n1_ := Aside0.mk (blk_drew BK318.out)
                        have n2_ := Aside0.mk (blk_drew BK319.out)
                        have n3_ := Aside0.mk (blk_drew BK320.out)
                        have n4_ := Aside0.mk (blk_drew BK321.out)
                        have n5_ := Aside0.mk (blk_drew BK329.out)
                        have n6_ := Aside0.mk (below_drew1 HB.out)
                        clear HO_330001
                        clear BK318
                        clear BK319
                        clear BK320
                        clear BK321
                        clear BK329
                        clear HB
                        have HO_330001 := n0_
                        have BK318 := n1_
                        have BK319 := n2_
                        have BK320 := n3_
                        have BK321 := n4_
                        have BK329 := n5_
                        have HB := n6_
                        clear n0_ n1_ n2_ n3_ n4_ n5_ n6_
                        have p330 : 0 ≤ (x11_2 : Int) := of_decide_eq_true (by first | (with_reducible assumption) | assumption)
                        have q330 : x11_2 < (y326.length : Int) := of_decide_eq_true (by first | (with_reducible assumption) | assumption)
                        try (obtain ⟨Aoz_, coz_, eoz_⟩ := Kd.R_slice HO_330001.out; subst eoz_)
                        obtain ⟨ad330, e330, hx330_0, hx330_1⟩ := at_T32 (Kd.R_reads' HO_330001.out).2.2 x11_2 p330 q330
                        cases e330
                        replace p330 := eq_true p330
                        replace q330 := eq_true q330
                        refine start_ (n := 14) (S := fun w' => w'.cell? ⟨gb329, 0, none⟩ = some (.int .u64 a0_0) ∧ w'.cell? ⟨gb329, 1, none⟩ = some (.slice (some ad330) y326.length co31) ∧ w'.cell? ⟨gb320, 0, none⟩ = some (.int .i64 a2_0) ∧ w'.cell? ⟨gb320, 1, none⟩ = some (.int .u64 a2_1) ∧ w'.cell? (ad330.add ((x11_2).toNat * 2)) = some (.int .i64 ((rd_T32 y326 x11_2).f0)) ∧ w'.cell? ⟨(ad330.add ((x11_2).toNat * 2)).block, (ad330.add ((x11_2).toNat * 2)).off + 1, none⟩ = some (.int .u64 ((rd_T32 y326 x11_2).f1))) (ds := []) #[false, false, false, false, false, false, false, false, false, false, false, false, false, false] (by kernel_rfl) rfl rfl ⟨(blk_cell BK329.out 0).trans rfl, (blk_cell BK329.out 1).trans rfl, (blk_cell BK320.out 0).trans rfl, (blk_cell BK320.out 1).trans rfl, hx330_0, hx330_1⟩ (fun hHeld => ?_); refine with_tabW scrivenerref14_Swap.tab13 scrivenerref14_Swap.bits13 (fun HT_ HW_ => ?_)
                        generalize wr.drew = w59 at HO_330001 BK318 BK319 BK320 BK321 BK329 HB hx330_0 hx330_1 hHeld ⊢
                        refine pure_ (i := 0) (N := some 45) (v := ?_) (a' := ?_) #[true, false, false, false, false, false, false, false, false, false, false, false, false, false] rfl rfl (any_of HT_.out (by kernel_rfl)) (fun _ _ _ h => h) (Or.inl ⟨by rfl, ?_⟩) ?_ ?_
                        rotate_left
                        · intro w'
                          go_simp
                          with_reducible rfl
                        rotate_left
                        · simp only [Act.put, List.setIfInBounds_toArray, List.set_cons_zero, List.set_cons_succ, i64_w, i32_w]
                          rfl
                        refine pure_ (i := 1) (N := some 46) (v := ?_) (a' := ?_) #[true, true, false, false, false, false, false, false, false, false, false, false, false, false] rfl rfl (any_of HT_.out (by kernel_rfl)) (fun _ _ _ h => h) (Or.inl ⟨by rfl, ?_⟩) ?_ ?_
                        rotate_left
                        · intro w'
                          go_simp
                          with_reducible rfl
                        rotate_left
                        · simp only [Act.put, List.setIfInBounds_toArray, List.set_cons_zero, List.set_cons_succ, i64_w, i32_w]
                          rfl
                        refine pure_ (i := 2) (N := some 47) (v := ?_) (a' := ?_) #[true, true, true, false, false, false, false, false, false, false, false, false, false, false] rfl rfl (any_of HT_.out (by kernel_rfl)) (fun _ _ _ h => h) (Or.inl ⟨by rfl, ?_⟩) ?_ ?_
                        rotate_left
                        · intro w'
                          go_simp
                          with_reducible rfl
                        rotate_left
                        · simp only [Act.put, List.setIfInBounds_toArray, List.set_cons_zero, List.set_cons_succ, i64_w, i32_w]
                          rfl
                        refine pure_ (i := 3) (N := some 48) (v := ?_) (a' := ?_) #[true, true, true, true, false, false, false, false, false, false, false, false, false, false] rfl rfl (any_of HT_.out (by kernel_rfl)) (fun _ _ _ h => h) (Or.inl ⟨by rfl, ?_⟩) ?_ ?_
                        rotate_left
                        · intro w'
                          go_simp
                          with_reducible rfl
                        rotate_left
                        · simp only [Act.put, List.setIfInBounds_toArray, List.set_cons_zero, List.set_cons_succ, i64_w, i32_w]
                          rfl
                        refine pure_ (i := 4) (N := some 49) (v := ?_) (a' := ?_) #[true, true, true, true, true, false, false, false, false, false, false, false, false, false] rfl rfl (any_of HT_.out (by kernel_rfl)) (fun _ _ _ h => h) (Or.inl ⟨by rfl, ?_⟩) ?_ ?_
                        rotate_left
                        · intro w'
                          go_simp
                          with_reducible rfl
                        rotate_left
                        · simp only [Act.put, List.setIfInBounds_toArray, List.set_cons_zero, List.set_cons_succ, i64_w, i32_w]
                          rfl
                        refine pure_ (i := 6) (N := some 51) (v := ?_) (a' := ?_) #[true, true, true, true, true, false, true, false, false, false, false, false, false, false] rfl rfl (any_of HT_.out (by kernel_rfl)) (fun _ _ _ h => h) (Or.inl ⟨by rfl, ?_⟩) ?_ ?_
                        rotate_left
                        · intro w'
                          go_simp
                          with_reducible rfl
                        rotate_left
                        · simp only [Act.put, List.setIfInBounds_toArray, List.set_cons_zero, List.set_cons_succ, i64_w, i32_w]
                          rfl
                        refine pure_ (i := 10) (N := some 55) (v := ?_) (a' := ?_) #[true, true, true, true, true, false, true, false, false, false, true, false, false, false] rfl rfl (any_of HT_.out (by kernel_rfl)) (fun _ _ _ h => h) (Or.inl ⟨by rfl, ?_⟩) ?_ ?_
                        rotate_left
                        · intro w'
                          go_simp
                          with_reducible rfl
                        rotate_left
                        · simp only [Act.put, List.setIfInBounds_toArray, List.set_cons_zero, List.set_cons_succ, i64_w, i32_w]
                          rfl
                        refine take_ (i := 5) (N := some 50) (v := ?_) (a' := ?_) #[true, true, true, true, true, true, true, false, false, false, true, false, false, false] rfl rfl (take_ofW HT_.out HW_.out (by kernel_rfl)) (fun _ _ _ h => h) (Or.inl ⟨by rfl, ?_⟩) hHeld ?_ ?_
                        rotate_left
                        · rintro w' ⟨s0, s1, s2, s3, s4, s5⟩
                          go_simp
                          with_reducible rfl
                        rotate_left
                        · simp only [Act.put, List.setIfInBounds_toArray, List.set_cons_zero, List.set_cons_succ, i64_w, i32_w]
                          rfl
                        refine pure_ (i := 7) (N := some 52) (v := ?_) (a' := ?_) #[true, true, true, true, true, true, true, true, false, false, true, false, false, false] rfl rfl (any_of HT_.out (by kernel_rfl)) (fun _ _ _ h => h) (Or.inl ⟨by rfl, ?_⟩) ?_ ?_
                        rotate_left
                        · intro w'
                          go_simp
                          with_reducible rfl
                        rotate_left
                        · simp only [Act.put, List.setIfInBounds_toArray, List.set_cons_zero, List.set_cons_succ, i64_w, i32_w]
                          rfl
                        refine pure_ (i := 8) (N := some 53) (v := ?_) (a' := ?_) #[true, true, true, true, true, true, true, true, true, false, true, false, false, false] rfl rfl (any_of HT_.out (by kernel_rfl)) (fun _ _ _ h => h) (Or.inl ⟨by rfl, ?_⟩) ?_ ?_
                        rotate_left
                        · intro w'
                          go_simp
                          with_reducible rfl
                        rotate_left
                        · simp only [Act.put, List.setIfInBounds_toArray, List.set_cons_zero, List.set_cons_succ, i64_w, i32_w]
                          rfl
                        refine take_ (i := 9) (N := some 54) (v := ?_) (a' := ?_) #[true, true, true, true, true, true, true, true, true, true, true, false, false, false] rfl rfl (take_ofW HT_.out HW_.out (by kernel_rfl)) (fun _ _ _ h => h) (Or.inl ⟨by rfl, ?_⟩) hHeld ?_ ?_
                        rotate_left
                        · rintro w' ⟨s0, s1, s2, s3, s4, s5⟩
                          go_simp
                          with_reducible rfl
                        rotate_left
                        · simp only [Act.put, List.setIfInBounds_toArray, List.set_cons_zero, List.set_cons_succ, i64_w, i32_w]
                          rfl
                        refine take_ (i := 11) (N := some 56) (v := ?_) (a' := ?_) #[true, true, true, true, true, true, true, true, true, true, true, true, false, false] rfl rfl (take_ofW HT_.out HW_.out (by kernel_rfl)) (fun _ _ _ h => h) (Or.inl ⟨by rfl, ?_⟩) hHeld ?_ ?_
                        rotate_left
                        · rintro w' ⟨s0, s1, s2, s3, s4, s5⟩
                          go_simp
                          with_reducible rfl
                        rotate_left
                        · simp only [Act.put, List.setIfInBounds_toArray, List.set_cons_zero, List.set_cons_succ, i64_w, i32_w]
                          rfl
                        refine pure_ (i := 12) (N := some 57) (v := ?_) (a' := ?_) #[true, true, true, true, true, true, true, true, true, true, true, true, true, false] rfl rfl (any_of HT_.out (by kernel_rfl)) (fun _ _ _ h => h) (Or.inl ⟨by rfl, ?_⟩) ?_ ?_
                        rotate_left
                        · intro w'
                          go_simp
                          with_reducible rfl
                        rotate_left
                        · simp only [Act.put, List.setIfInBounds_toArray, List.set_cons_zero, List.set_cons_succ, i64_w, i32_w]
                          rfl
                        refine pure_ (i := 13) (N := some 58) (v := ?_) (a' := ?_) #[true, true, true, true, true, true, true, true, true, true, true, true, true, true] rfl rfl (any_of HT_.out (by kernel_rfl)) (fun _ _ _ h => h) (Or.inl ⟨by rfl, ?_⟩) ?_ ?_
                        rotate_left
                        · intro w'
                          go_simp
                          with_reducible rfl
                        rotate_left
                        · simp only [Act.put, List.setIfInBounds_toArray, List.set_cons_zero, List.set_cons_succ, i64_w, i32_w]
                          rfl
                        refine done_ (done_of HT_.out (by kernel_rfl)) ?_
                        try go_wp2
                        go_roundg k2
                        case measure => have := HK1.out; have := HK2.out; omega
                        case rel => exact ⟨(wrap64 (x11_2 + 1)), (x322000_2), (by first | rfl | (simp; done) | (simp [*]; done)), H', ⟨by have := HK1.out; have := HK2.out; omega⟩, ⟨by (with_reducible repeat (first | apply Kd.R_alloc | apply Kd.R_drewN | apply Kd.R_drew)); exact HO_330001.out⟩, ⟨by (with_reducible repeat (first | refine blk_drewN ?_ _ | refine blk_drew ?_ | refine blk_alloc ?_ _)); exact BK318.out⟩, ⟨by (with_reducible repeat (first | refine blk_drewN ?_ _ | refine blk_drew ?_ | refine blk_alloc ?_ _)); exact BK319.out⟩, ⟨by (with_reducible repeat (first | refine blk_drewN ?_ _ | refine blk_drew ?_ | refine blk_alloc ?_ _)); exact BK320.out⟩, ⟨by (with_reducible repeat (first | refine blk_drewN ?_ _ | refine blk_drew ?_ | refine blk_alloc ?_ _)); exact BK321.out⟩, ⟨by (with_reducible repeat (first | refine blk_drewN ?_ _ | refine blk_drew ?_ | refine blk_alloc ?_ _)); exact BK329.out⟩, ⟨by repeat (first | (with_reducible first | exact HB.out | apply below_alloc | apply pw_below_drewN | apply below_drew1 | refine below_set ?_ GE318.out | refine below_set ?_ GE319.out | refine below_set ?_ GE320.out | refine below_set ?_ GE321.out | refine below_set ?_ GE329.out) | exact HB.out)⟩⟩
                    · rw [if_neg c42] at H
                      exact absurd H (by simp)
                · rw [if_neg c34] at H
                  have c34b0 : decide (x11_2 < (y326.length : Int)) = false := decide_eq_false c34
                  clear c34
                  by_cases c60 : 0 ≤ x8_1
                  · rw [if_pos c60] at H
                    have c60b0 : decide (0 ≤ x8_1) = true := decide_eq_true c60
                    clear c60
                    by_cases c61 : x8_1 < (y326.length : Int)
                    · rw [if_pos c61] at H
                      have c61b0 : decide (x8_1 < (y326.length : Int)) = true := decide_eq_true c61
                      clear c61
                      obtain ⟨y331, hy331⟩ : ∃ y_ : List (S32), y_ = (y326.set (x8_1 : Int).toNat (⟨a2_0, a2_1⟩ : S32)) := ⟨_, rfl⟩
                      replace H : (some (a0_0, y331, true)) = some (r1, r2, r3) := by first | (rw [hy331]; with_reducible exact H) | (have H2_ := (Option.bind_some _ _).symm.trans H; rw [hy331]; with_reducible exact H2_) | (have H2_ := (Option.bind_some _ _).symm.trans H; with_reducible exact H2_) | with_reducible exact H | (rw [hy331]; exact H) | exact H
                      have Ny331 := Aside0.mk hy331
                      clear hy331
                      simp only [Option.some.injEq, Prod.mk.injEq] at H
                      obtain ⟨rfl, rfl, rfl⟩ := H
                      have hnb63 := NB329_318.out
                      have hnc63 := NB318_329.out
                      have hnb64 := NB329_319.out
                      have hnc64 := NB319_329.out
                      have hnb65 := NB329_320.out
                      have hnc65 := NB320_329.out
                      have hnb66 := NB329_321.out
                      have hnc66 := NB321_329.out
                      have hcz67_0 : wr.cell? ⟨gb329, 0, none⟩ = some (.int .u64 a0_0) := (blk_cell BK329.out 0).trans rfl
                      have hcz67_1 : wr.cell? ⟨gb329, 1, none⟩ = some (.slice Ao31 y326.length co31) := (blk_cell BK329.out 1).trans rfl
                      have hfz67_0 := blk_frozen BK329.out 0
                      have hfz67_1 := blk_frozen BK329.out 1
                      have hnb68 := NB320_318.out
                      have hnc68 := NB318_320.out
                      have hnb69 := NB320_319.out
                      have hnc69 := NB319_320.out
                      have hnb70 := NB320_321.out
                      have hnc70 := NB321_320.out
                      have hcz71_0 : wr.cell? ⟨gb320, 0, none⟩ = some (.int .i64 a2_0) := (blk_cell BK320.out 0).trans rfl
                      have hcz71_1 : wr.cell? ⟨gb320, 1, none⟩ = some (.int .u64 a2_1) := (blk_cell BK320.out 1).trans rfl
                      have hfz71_0 := blk_frozen BK320.out 0
                      have hfz71_1 := blk_frozen BK320.out 1
                      have p62 : 0 ≤ (x8_1 : Int) := of_decide_eq_true (by first | (with_reducible assumption) | assumption)
                      have q62 : (x8_1 : Int) < ((y326.length : Int) : Int) := of_decide_eq_true (by first | (with_reducible assumption) | assumption)
                      obtain ⟨go62, co62, eo62, gb62, gl62, cl62, HG62⟩ := Kd.R_form HO_330001.out (by omega)
                      (first | cases eo62 | (injection eo62 with ea_ en_ ec_; (first | subst ea_ | (injection ea_ with ea_; subst ea_)); subst ec_; clear en_))
                      have GB62 := Aside0.mk gb62
                      have GG62 := Aside0.mk HG62
                      clear gb62 gl62 HG62
                      obtain ⟨ce62, hcl62, hM62, hcc62, hfr62⟩ := Kd.R_elem HO_330001.out z32 (x8_1 : Int) p62 q62
                      obtain rfl := k32_openM hM62
                      have hx62_0 : wr.cell? ⟨go62, (x8_1 : Int).toNat * 2, none⟩ = some (.int .i64 ((rd_T32 y326 x8_1).f0)) := hcc62 0 _ rfl
                      have hx62_1 : wr.cell? ⟨go62, (x8_1 : Int).toNat * 2 + 1, none⟩ = some (.int .u64 ((rd_T32 y326 x8_1).f1)) := hcc62 1 _ rfl
                      have hf62_0 : wr.frozen? ⟨go62, (x8_1 : Int).toNat * 2, none⟩ = false := hfr62 0
                      have hf62_1 : wr.frozen? ⟨go62, (x8_1 : Int).toNat * 2 + 1, none⟩ = false := hfr62 1
                      clear hcl62 hcc62 hfr62 hM62
                      replace p62 := eq_true p62
                      replace q62 := eq_true q62
                      have HX72 := Aside0.mk (show Kd.R k32 32 wr w.heap.size (fun k_ => k_ ≠ gb319 ∧ k_ ≠ gb320) (.slice (some ⟨go62, 0, none⟩) y326.length co31) y326 from (Rb HO_330001.out))
                      obtain ⟨ce72, hcl72, hM72, hcc72, hfr72⟩ := Kd.R_elem HX72.out z32 (x8_1 : Int) (of_decide_eq_true (by first | (with_reducible assumption) | assumption)) (by have h_ : (x8_1 : Int) < ((y326.length : Int) : Int) := of_decide_eq_true (by first | (with_reducible assumption) | assumption); first | exact h_ | (have e_ := (Kd.R_reads' HO_330001.out).1; omega) | simpa using h_)
                      obtain rfl := k32_openM hM72
                      have HP72 := Kd.R_seg HX72.out (x8_1 : Int) (of_decide_eq_true (by first | (with_reducible assumption) | assumption)) (by have h_ : (x8_1 : Int) < ((y326.length : Int) : Int) := of_decide_eq_true (by first | (with_reducible assumption) | assumption); first | exact h_ | (have e_ := (Kd.R_reads' HO_330001.out).1; omega) | simpa using h_) (seg := [.int .i64 a2_0, .int .u64 a2_1]) (j := 0) hcl72 hcc72 (show 2 ≤ 2 from by decide) (x' := (⟨a2_0, a2_1⟩ : S32)) (k32_mkM _ _ _ (⟨a2_0, a2_1⟩ : S32) ) (fun _ hk => hk)
                      have hx72_0 := hcc72 0 _ rfl
                      (try simp only [show (k32).sz = 2 from rfl, Nat.mul_one, Nat.add_zero] at hx72_0)
                      have hf72_0 := hfr72 0
                      (try simp only [show (k32).sz = 2 from rfl, Nat.mul_one, Nat.add_zero] at hf72_0)
                      have hx72_1 := hcc72 1 _ rfl
                      (try simp only [show (k32).sz = 2 from rfl, Nat.mul_one, Nat.add_zero] at hx72_1)
                      have hf72_1 := hfr72 1
                      (try simp only [show (k32).sz = 2 from rfl, Nat.mul_one, Nat.add_zero] at hf72_1)
                      clear hcl72 hcc72 hfr72 hM72
                      go_wp2_with (first | ((with_reducible refine gate_store (t := 32) (p := 64) rfl ?_); refine store_event (t := 32) (p := 64) (v := ?vo_w73) (w1 := ((wr.setCell ⟨go62, (x8_1 : Int).toNat * 2, none⟩ (.int .i64 a2_0)).setCell ⟨go62, (x8_1 : Int).toNat * 2 + 1, none⟩ (.int .u64 a2_1))) ?hg ?ho ?hn ?hr ?_; (case ho => rfl); (case hg => rfl); (case hn => rfl); (case hr => first | (go_simp; done) | (go_simp; rfl)); intro w73 hw; have hg : wr.grownBy w73 (some go62) := (by rw [hw]; exact HP72.2); have hp_ : Kd.R k32 32 w73 w.heap.size (fun k_ => k_ ≠ gb319 ∧ k_ ≠ gb320) (.slice (some ⟨go62, 0, none⟩) y326.length co31) y331 := (by rw [hw, Ny331.out]; exact HP72.1); clear HP72; have n0_ := Aside0.mk (hp_); have n1_ := Aside0.mk (blk_grown (g := gb318) (o := .cells #[.int .u64 a0_0, .slice A0_1 l0_1.length c0_1] 25 (0, 0)) (Bb BK318.out) hg (Kd.R_ne HO_330001.out BK318.out (by decide))); have n2_ := Aside0.mk (blk_grown (g := gb319) (o := .cells #[.int .i64 a1_0, .int .u64 a1_1] 32 (0, 0)) (Bb BK319.out) hg (Kd.R_away HO_330001.out (fun _ hk => hk.1))); have n3_ := Aside0.mk (blk_grown (g := gb320) (o := .cells #[.int .i64 a2_0, .int .u64 a2_1] 32 (0, 0)) (Bb BK320.out) hg (Kd.R_away HO_330001.out (fun _ hk => hk.2))); have n4_ := Aside0.mk (blk_grown (g := gb321) (o := .cells #[.int .u64 x322000_2, .slice none 0 0] 25 (0, 0)) (Bb BK321.out) hg (Kd.R_ne HO_330001.out BK321.out (by decide))); have n5_ := Aside0.mk (blk_grown (g := gb329) (o := .cells #[.int .u64 a0_0, .slice (some ⟨go62, 0, none⟩) y326.length co31] 25 (0, 0)) (Bb BK329.out) hg (Kd.R_ne HO_330001.out BK329.out (by decide))); have n6_ := Aside0.mk ((by rw [hw]; exact below_set (below_set (HB.out) GB62.out) GB62.out : Below w.heap.size w w73)); clear HO_330001; clear BK318; clear BK319; clear BK320; clear BK321; clear BK329; clear HB; have HO_330001 := n0_; have BK318 := n1_; have BK319 := n2_; have BK320 := n3_; have BK321 := n4_; have BK329 := n5_; have HB := n6_; clear n0_ n1_ n2_ n3_ n4_ n5_ n6_; clear hg hw hp_; have hcz74_0 : w73.cell? ⟨gb329, 0, none⟩ = some (.int .u64 a0_0) := (blk_cell BK329.out 0).trans rfl; have hcz74_1 : w73.cell? ⟨gb329, 1, none⟩ = some (.slice (some ⟨go62, 0, none⟩) y326.length co31) := (blk_cell BK329.out 1).trans rfl; have hfz74_0 := blk_frozen BK329.out 0; have hfz74_1 := blk_frozen BK329.out 1; have hnb75 := NB321_318.out; have hnc75 := NB318_321.out; have hnb76 := NB321_319.out; have hnc76 := NB319_321.out; have hcz77_0 : w73.cell? ⟨gb321, 0, none⟩ = some (.int .u64 x322000_2) := (blk_cell BK321.out 0).trans rfl; have hcz77_1 : w73.cell? ⟨gb321, 1, none⟩ = some (.slice none 0 0) := (blk_cell BK321.out 1).trans rfl; have hfz77_0 := blk_frozen BK321.out 0; have hfz77_1 := blk_frozen BK321.out 1))
                      refine bodyPost_ret (results_ct rfl _ _ gb321 25 #[.int .u64 a0_0, .slice (some ⟨go62, 0, none⟩) y326.length co31] (0, 0) _ rfl (by (with_reducible repeat (first | refine blk_drewN ?_ _ | refine blk_drew ?_ | refine blk_alloc ?_ _)); refine blk_put (cs := #[.int .u64 a0_0, .slice none 0 0]) ?_ 1 _ rfl; (with_reducible repeat (first | refine blk_drewN ?_ _ | refine blk_drew ?_ | refine blk_alloc ?_ _)); refine blk_put (cs := #[.int .u64 x322000_2, .slice none 0 0]) ?_ 0 _ rfl; (with_reducible repeat (first | refine blk_drewN ?_ _ | refine blk_drew ?_ | refine blk_alloc ?_ _)); exact BK321.out) Try.underlying25 rfl (by kernel_rfl)) rfl ?_
                      exact ⟨_, by first | rfl | (simp [errW_none, errW_some] <;> rfl) | (simp [*, errW_none, errW_some] <;> rfl), by (with_reducible repeat (first | apply Kd.R_alloc | apply Kd.R_drewN | apply Kd.R_drew)); exact Kd.R_mono (Kd.R_far (p := ⟨gb321, 1, none⟩) (Kd.R_far (p := ⟨gb321, 0, none⟩) (Kd.R_types HO_330001.out BK321.out (by decide)) (fun _ hk => hk.2) (.int .u64 a0_0)) (fun _ hk => hk.2) (.slice (some ⟨go62, 0, none⟩) y326.length co31)) (fun _ hk => trivial), by repeat (first | (with_reducible first | exact HB.out | apply below_alloc | apply pw_below_drewN | apply below_drew1 | refine below_set ?_ GE318.out | refine below_set ?_ GE319.out | refine below_set ?_ GE320.out | refine below_set ?_ GE321.out | refine below_set ?_ GE329.out) | exact HB.out)⟩
                    · rw [if_neg c61] at H
                      exact absurd H (by simp)
                  · rw [if_neg c60] at H
                    exact absurd H (by simp)
          · rw [if_neg c23] at H
            exact absurd H (by simp)
end Go.Proofs.Ytipjnfljkknmgaa.Q
