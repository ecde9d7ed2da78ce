/- Part 8 of the proof of the row StripeMore: written for this claim by the session and by a program of its own. -/
import Derived.Test.YtipjnfljkknmgaaCStripeMorep1
import Derived.Test.YtipjnfljkknmgaaCStripeMorep2
import Derived.Test.YtipjnfljkknmgaaCStripeMorep7
import Derived.Test.YtipjnfljkknmgaaCStripeMorep4
import Derived.Test.YtipjnfljkknmgaaCStripeMorep5
namespace Go.Proofs.Ytipjnfljkknmgaa.Q
open Go.RowKit Go.Proofs.YtipjnfljkknmgaaW.PrintWords Go.Proofs.YtipjnfljkknmgaaW.PrintLast Go.Proofs.YtipjnfljkknmgaaW.PrintMore
attribute [local go_sem] max2_int min2_int max_two min_two max_three min_three max_four min_four   -- for this text's walks alone
set_option linter.unusedVariables false
set_option linter.unusedSimpArgs false
mutual
def scrivenerlaw14_StripeMeets.j0 : Nat → Int → Int → Int → List (S32) → Int → Bool → Int → List (S32) → Option (Bool)
  | 0, _, _, _, _, _, _, _, _ => none
  | k + 1, x1, x2, x3, x4, x5, x57, x148000, x148001 => if x57 = true then ((scrivenerlaw14_awake.f).bind fun t159 => (some t159)) else ((stripe_Set.f k (([(⟨x148000, x148001⟩ : S25)] : List (S25))) x1 x3).bind fun t163 => (scrivenerlaw14_StripeMeets.l0 k x1 x2 x4 x5 t163 ([] : List (S32)) false 0 x148000 x148001))
def scrivenerlaw14_StripeMeets.l0 : Nat → Int → Int → List (S32) → Int → List (S32) → List (S32) → Bool → Int → Int → List (S32) → Option (Bool)
  | 0, _, _, _, _, _, _, _, _, _, _ => none
  | k + 1, x1, x2, x4, x5, x13, x14, x15, x16, x148000, x148001 => if x16 < (x13.length : Int) then (if 0 ≤ x16 then (if (Go.bits .and .i64 (shr .i64 x5 x16) 1) = 1 then (if x14.length < 8796093022208 then ((some (x14 ++ [(⟨(rd_T32 x13 x16).f0, (rd_T32 x13 x16).f1⟩ : S32)] : List (S32))).bind fun y167 => (if x15 = true then (scrivenerlaw14_StripeMeets.l0 k x1 x2 x4 x5 x13 y167 true (wrap64 (x16 + 1)) x148000 x148001) else (if x16 ≤ (wrap64 (x16 + 1)) then (if (wrap64 (x16 + 1)) ≤ (x13.length : Int) then ((scrivenerref14_Among.f k ((x13.take ((wrap64 (x16 + 1)) : Int).toNat).drop (x16 : Int).toNat) x4).bind fun t175 => (scrivenerlaw14_StripeMeets.l0 k x1 x2 x4 x5 x13 y167 (t175 == 1) (wrap64 (x16 + 1)) x148000 x148001)) else (none)) else (none)))) else (none)) else (scrivenerlaw14_StripeMeets.l0 k x1 x2 x4 x5 x13 x14 x15 (wrap64 (x16 + 1)) x148000 x148001)) else (none)) else ((stripe_Covered.f x148000 x148001 x1 x2 x4).bind fun t176 => (if t176 = true then (if (x13.length : Int) = x1 then (if (x14.length : Int) < x2 then ((scrivenerlaw14_awake.f).bind fun t177 => (some t177)) else (if x15 = true then ((scrivenerlaw14_awake.f).bind fun t178 => (some t178)) else (some false))) else (some false)) else (scrivenerlaw14_StripeMeets.l1 k x1 x2 x4 0 x148000 x148001)))
def scrivenerlaw14_StripeMeets.l1 : Nat → Int → Int → List (S32) → Int → Int → List (S32) → Option (Bool)
  | 0, _, _, _, _, _, _ => none
  | k + 1, x1, x2, x4, x17, x148000, x148001 => if x17 < (x148001.length : Int) then ((stripe_Set.f k (([(⟨x148000, x148001⟩ : S25)] : List (S25))) x1 (IntKind.u64.wrap (x148000 + (IntKind.u64.wrap (x17))))).bind fun t182 => ((scrivenerref14_Among.f k t182 x4).bind fun t185 => (if (wrap64 ((t182.length : Int) - t185)) ≥ x2 then ((scrivenerlaw14_awake.f).bind fun t186 => (some t186)) else (scrivenerlaw14_StripeMeets.l1 k x1 x2 x4 (wrap64 (x17 + 1)) x148000 x148001)))) else (some false)
end
def scrivenerlaw14_StripeMeets.f (k : Nat) (a0_0 : Int) (l0_1 : List (S32)) (a1 : Int) (a2 : Int) (a3 : Int) (l4 : List (S32)) (a5 : Int) : Option (Bool) := (scrivenerlaw14_long.f k (([(⟨a0_0, l0_1⟩ : S25)] : List (S25))) a1 (([l4] : List (List (S32))))).bind fun t154 => (if t154 = true then (scrivenerlaw14_StripeMeets.j0 k a1 a2 a3 l4 a5 true a0_0 l0_1) else (if a1 < 1 then (scrivenerlaw14_StripeMeets.j0 k a1 a2 a3 l4 a5 true a0_0 l0_1) else (if a2 < 1 then (scrivenerlaw14_StripeMeets.j0 k a1 a2 a3 l4 a5 true a0_0 l0_1) else (if a2 > a1 then (scrivenerlaw14_StripeMeets.j0 k a1 a2 a3 l4 a5 true a0_0 l0_1) else ((scrivenerref07_MayFrags.f k a1 (([(⟨1, l0_1⟩ : S25)] : List (S25)))).bind fun t158 => (if t158 = true then (if a3 < a0_0 then (scrivenerlaw14_StripeMeets.j0 k a1 a2 a3 l4 a5 true a0_0 l0_1) else (scrivenerlaw14_StripeMeets.j0 k a1 a2 a3 l4 a5 (decide (a0_0 > 1152921504606846976)) a0_0 l0_1)) else (scrivenerlaw14_StripeMeets.j0 k a1 a2 a3 l4 a5 true a0_0 l0_1)))))))
set_option maxHeartbeats 8000000 in
set_option maxRecDepth 100000 in
theorem scrivenerlaw14_StripeMeets.calls (k : Nat) (a0_0 : Int) (P0_1_ : Nat → Prop) (A0_1 : Option Addr) (c0_1 : Nat) (l0_1 : List (S32)) (a1 : Int) (a2 : Int) (a3 : Int) (P4_ : Nat → Prop) (A4 : Option Addr) (c4 : Nat) (l4 : List (S32)) (a5 : Int) (r : Bool) (w : World) (hs0_1 : Kd.V k32 32 w w.heap.size (fun k_ => P0_1_ k_) (.slice A0_1 l0_1.length c0_1) l0_1) (hs4 : Kd.V k32 32 w w.heap.size (fun k_ => P4_ k_) (.slice A4 l4.length c4) l4) (h : scrivenerlaw14_StripeMeets.f k a0_0 l0_1 a1 a2 a3 l4 a5 = some r) (hT_ : r = true) :
    Calls Try.prog 3 #[.agg #[.int .u64 a0_0, .slice A0_1 l0_1.length c0_1], .int .i64 a1, .int .i64 a2, .int .u64 a3, .slice A4 l4.length c4, .int .i64 a5] w fun e w' => e = .returned (.bool r) ∧ Below w.heap.size w w' := by
  have hu25 := Try.underlying25
  have hu32 := Try.underlying32
  have HO0_1 := Aside0.mk (show Kd.V k32 32 w w.heap.size (fun k_ => ((P0_1_ k_ ∨ P4_ k_) ∨ w.heap.size ≤ k_)) (.slice A0_1 l0_1.length c0_1) l0_1 from Kd.V_mono hs0_1 (fun k_ hk => .inl (.inl hk)))
  have HO4 := Aside0.mk (show Kd.V k32 32 w w.heap.size (fun k_ => ((P0_1_ k_ ∨ P4_ k_) ∨ w.heap.size ≤ k_)) (.slice A4 l4.length c4) l4 from Kd.V_mono hs4 (fun k_ hk => .inl (.inr hk)))
  have HB := Aside0.mk (Below.refl w.heap.size w)
  have H : ((scrivenerlaw14_long.f k (([(⟨a0_0, l0_1⟩ : S25)] : List (S25))) a1 (([l4] : List (List (S32))))).bind fun t154 => (if t154 = true then (scrivenerlaw14_StripeMeets.j0 k a1 a2 a3 l4 a5 true a0_0 l0_1) else (if a1 < 1 then (scrivenerlaw14_StripeMeets.j0 k a1 a2 a3 l4 a5 true a0_0 l0_1) else (if a2 < 1 then (scrivenerlaw14_StripeMeets.j0 k a1 a2 a3 l4 a5 true a0_0 l0_1) else (if a2 > a1 then (scrivenerlaw14_StripeMeets.j0 k a1 a2 a3 l4 a5 true a0_0 l0_1) else ((scrivenerref07_MayFrags.f k a1 (([(⟨1, l0_1⟩ : S25)] : List (S25)))).bind fun t158 => (if t158 = true then (if a3 < a0_0 then (scrivenerlaw14_StripeMeets.j0 k a1 a2 a3 l4 a5 true a0_0 l0_1) else (scrivenerlaw14_StripeMeets.j0 k a1 a2 a3 l4 a5 (decide (a0_0 > 1152921504606846976)) a0_0 l0_1)) else (scrivenerlaw14_StripeMeets.j0 k a1 a2 a3 l4 a5 true a0_0 l0_1)))))))) = some r := h
  clear h
  have HT_ := Aside0.mk hT_
  clear hT_
  have HC7 := Aside0.mk H
  clear H
  go_enter Try.func3, Try.ntmps3
  go_upto_region 1 with (first | ((with_reducible refine gate_dst (N := 6) rfl ?_); (try (refine gate_guard (by rfl) ?_; dsimp only)); refine box_event ?hg (N := 6) ?hd (cs := #[.int .u64 a0_0, .slice A0_1 l0_1.length c0_1]) (t := 25) ?hr ?_; (case hd => rfl); (case hg => rfl); (case hr => first | (go_simp; done) | (go_simp; rfl)); intro gb147 hg w8 hbox hb; have n0_ := Aside0.mk (Kd.V_below (Kd.V_elderB (Vb HO0_1.out) gb147 (Nat.le_of_eq hg.symm)) hb); have n1_ := Aside0.mk (Kd.V_below (Kd.V_elderB (Vb HO4.out) gb147 (Nat.le_of_eq hg.symm)) hb); have n2_ := Aside0.mk (below_step (Hb HB.out) hb); have n3_ := Aside0.mk (hbox); have n4_ := Aside0.mk ((by rw [hg]; exact (below_size (Hb HB.out)) : w.heap.size ≤ gb147)); have n5_ := Aside0.mk ((by rw [hg]; exact (below_size (Hb HB.out)) : w.heap.size ≤ gb147)); clear HO0_1; clear HO4; clear HB; have HO0_1 := n0_; have HO4 := n1_; have HB := n2_; have BK147 := n3_; have GW147 := n4_; have GE147 := n5_; clear n0_ n1_ n2_ n3_ n4_ n5_; clear hb hbox hg))
  (try simp only [Act.put, List.setIfInBounds_toArray, List.set_cons_zero, List.set_cons_succ])
  go_cut [57] (fun v57 wc => ∃ (kq : Nat) (x57_6 : Bool), v57 = .bool x57_6 ∧ Aside0 (scrivenerlaw14_StripeMeets.j0 kq a1 a2 a3 l4 a5 x57_6 a0_0 l0_1 = some r) ∧ Aside0 (kq ≤ k) ∧ Aside0 (Kd.V k32 32 wc w.heap.size (fun k_ => ((P0_1_ k_ ∨ P4_ k_) ∨ w.heap.size ≤ k_) ∧ k_ ≠ gb147) (.slice A4 l4.length c4) l4) ∧ Aside0 (Kd.V k32 32 wc w.heap.size (fun k_ => ((P0_1_ k_ ∨ P4_ k_) ∨ w.heap.size ≤ k_) ∧ k_ ≠ gb147) (.slice A0_1 l0_1.length c0_1) l0_1) ∧ Aside0 (wc.heap[gb147]? = some (.cells #[.int .u64 a0_0, (.slice A0_1 l0_1.length c0_1)] 25 (0, 0))) ∧ Aside0 (Below w.heap.size w wc))
  case first =>
    have H := HC7.out
    clear HC7
    obtain ⟨y148, hy148⟩ : ∃ y_ : List (S25), y_ = (([(⟨a0_0, l0_1⟩ : S25)] : List (S25))) := ⟨_, rfl⟩
    replace H : ((scrivenerlaw14_long.f k y148 a1 (([l4] : List (List (S32))))).bind fun t154 => (if t154 = true then (scrivenerlaw14_StripeMeets.j0 k a1 a2 a3 l4 a5 true a0_0 l0_1) else (if a1 < 1 then (scrivenerlaw14_StripeMeets.j0 k a1 a2 a3 l4 a5 true a0_0 l0_1) else (if a2 < 1 then (scrivenerlaw14_StripeMeets.j0 k a1 a2 a3 l4 a5 true a0_0 l0_1) else (if a2 > a1 then (scrivenerlaw14_StripeMeets.j0 k a1 a2 a3 l4 a5 true a0_0 l0_1) else ((scrivenerref07_MayFrags.f k a1 (([(⟨1, l0_1⟩ : S25)] : List (S25)))).bind fun t158 => (if t158 = true then (if a3 < a0_0 then (scrivenerlaw14_StripeMeets.j0 k a1 a2 a3 l4 a5 true a0_0 l0_1) else (scrivenerlaw14_StripeMeets.j0 k a1 a2 a3 l4 a5 (decide (a0_0 > 1152921504606846976)) a0_0 l0_1)) else (scrivenerlaw14_StripeMeets.j0 k a1 a2 a3 l4 a5 true a0_0 l0_1)))))))) = some r := by first | (rw [hy148]; with_reducible exact H) | (have H2_ := (Option.bind_some _ _).symm.trans H; rw [hy148]; with_reducible exact H2_) | (have H2_ := (Option.bind_some _ _).symm.trans H; with_reducible exact H2_) | with_reducible exact H | (rw [hy148]; exact H) | exact H
    have Ny148 := Aside0.mk hy148
    clear hy148
    obtain ⟨y151, hy151⟩ : ∃ y_ : List (List (S32)), y_ = (([l4] : List (List (S32)))) := ⟨_, rfl⟩
    replace H : ((scrivenerlaw14_long.f k y148 a1 y151).bind fun t154 => (if t154 = true then (scrivenerlaw14_StripeMeets.j0 k a1 a2 a3 l4 a5 true a0_0 l0_1) else (if a1 < 1 then (scrivenerlaw14_StripeMeets.j0 k a1 a2 a3 l4 a5 true a0_0 l0_1) else (if a2 < 1 then (scrivenerlaw14_StripeMeets.j0 k a1 a2 a3 l4 a5 true a0_0 l0_1) else (if a2 > a1 then (scrivenerlaw14_StripeMeets.j0 k a1 a2 a3 l4 a5 true a0_0 l0_1) else ((scrivenerref07_MayFrags.f k a1 (([(⟨1, l0_1⟩ : S25)] : List (S25)))).bind fun t158 => (if t158 = true then (if a3 < a0_0 then (scrivenerlaw14_StripeMeets.j0 k a1 a2 a3 l4 a5 true a0_0 l0_1) else (scrivenerlaw14_StripeMeets.j0 k a1 a2 a3 l4 a5 (decide (a0_0 > 1152921504606846976)) a0_0 l0_1)) else (scrivenerlaw14_StripeMeets.j0 k a1 a2 a3 l4 a5 true a0_0 l0_1)))))))) = some r := by first | (rw [hy151]; with_reducible exact H) | (have H2_ := (Option.bind_some _ _).symm.trans H; rw [hy151]; with_reducible exact H2_) | (have H2_ := (Option.bind_some _ _).symm.trans H; with_reducible exact H2_) | with_reducible exact H | (rw [hy151]; exact H) | exact H
    have Ny151 := Aside0.mk hy151
    clear hy151
    replace H := Option.bind_eq_some_iff.mp H
    obtain ⟨t154, A90, H⟩ := H
    replace H : (if t154 = true then (scrivenerlaw14_StripeMeets.j0 k a1 a2 a3 l4 a5 true a0_0 l0_1) else (if a1 < 1 then (scrivenerlaw14_StripeMeets.j0 k a1 a2 a3 l4 a5 true a0_0 l0_1) else (if a2 < 1 then (scrivenerlaw14_StripeMeets.j0 k a1 a2 a3 l4 a5 true a0_0 l0_1) else (if a2 > a1 then (scrivenerlaw14_StripeMeets.j0 k a1 a2 a3 l4 a5 true a0_0 l0_1) else ((scrivenerref07_MayFrags.f k a1 (([(⟨1, l0_1⟩ : S25)] : List (S25)))).bind fun t158 => (if t158 = true then (if a3 < a0_0 then (scrivenerlaw14_StripeMeets.j0 k a1 a2 a3 l4 a5 true a0_0 l0_1) else (scrivenerlaw14_StripeMeets.j0 k a1 a2 a3 l4 a5 (decide (a0_0 > 1152921504606846976)) a0_0 l0_1)) else (scrivenerlaw14_StripeMeets.j0 k a1 a2 a3 l4 a5 true a0_0 l0_1))))))) = some r := H
    have A9 := Aside0.mk A90
    clear A90
    by_cases c10 : t154 = true
    · subst c10
      rw [if_pos rfl] at H
      have H' := Aside0.mk H
      clear H
      have hcz11_0 : w8.cell? ⟨gb147, 0, none⟩ = some (.int .u64 a0_0) := (blk_cell BK147.out 0).trans rfl
      have hcz11_1 : w8.cell? ⟨gb147, 1, none⟩ = some (.slice A0_1 l0_1.length c0_1) := (blk_cell BK147.out 1).trans rfl
      have hfz11_0 := blk_frozen BK147.out 0
      have hfz11_1 := blk_frozen BK147.out 1
      go_wp2_with (first | ((with_reducible refine gate_dst (N := 20) rfl ?_); (try (refine gate_guard (by rfl) ?_; dsimp only)); refine Kd.N_lit k25 _ 25 ?hg (N' := 20) ?hd (xs := ([(⟨a0_0, l0_1⟩ : S25)] : List (S25))) (inner := [.int .u64 a0_0, .slice A0_1 l0_1.length c0_1]) (ok := (fun k_ => ((P0_1_ k_ ∨ P4_ k_) ∨ w.heap.size ≤ k_) ∧ k_ ≠ gb147)) (okp := (fun k_ => ((P0_1_ k_ ∨ P4_ k_) ∨ w.heap.size ≤ k_) ∧ k_ ≠ gb147)) ?hr ?hp (fun _ hk => hk) ((show ∀ k_, w8.heap.size ≤ k_ → (fun k_ => ((P0_1_ k_ ∨ P4_ k_) ∨ w.heap.size ≤ k_) ∧ k_ ≠ gb147) k_ from fun k_ hk => ⟨(.inr (Nat.le_trans (below_size (Hb HB.out)) hk)), Kd.freshB (Bb BK147.out) k_ hk⟩) _ (Nat.le_refl _)) (Below.refl _ _) (Nat.le_refl _) (by simp) ?_; (case hd => rfl); (case hg => rfl); (case hr => first | (go_simp; done) | (go_simp; rfl)); (case hp => exact (Reps.c2 (show Kd.FK k25 _ _ (⟨a0_0, l0_1⟩ : S25) [.int .u64 a0_0, .slice A0_1 l0_1.length c0_1] from (k25_mkF _ _ (⟨a0_0, l0_1⟩ : S25) (Kd.V_reads' HO0_1.out).2.1 (Kd.V_F (Kd.V_mono (Vb HO0_1.out) (fun k_ hk => ⟨hk.1, hk.2⟩))))) (Reps.none _ _))); intro v149 w12 ho13 hb hg_ hnew_; clear hg_ hnew_; (first | rw [← Ny148.out] at ho13 | (simp only [Int.reduceToNat] at ho13; rw [← Ny148.out] at ho13)); have n0_ := Aside0.mk (Kd.V_elder' (Vb HO0_1.out) (Kd.N_base ho13) hb); have n1_ := Aside0.mk (Kd.V_elder' (Vb HO4.out) (Kd.N_base ho13) hb); have n2_ := Aside0.mk (Kd.N_lower ho13 (below_size (Hb HB.out))); have n3_ := Aside0.mk (blk_below (Bb BK147.out) hb); have n4_ := Aside0.mk (below_step (Hb HB.out) hb); clear HO0_1; clear HO4; clear BK147; clear HB; have HO0_1 := n0_; have HO4 := n1_; have HO150 := n2_; have BK147 := n3_; have HB := n4_; clear n0_ n1_ n2_ n3_ n4_; clear hb ho13) | ((with_reducible refine gate_dst (N := 23) rfl ?_); (try (refine gate_guard (by rfl) ?_; dsimp only)); refine Kd.N_lit (Kd.slice 32 k32) _ 23 ?hg (N' := 23) ?hd (xs := ([l4] : List (List (S32)))) (inner := [.slice A4 l4.length c4]) (ok := (fun k_ => ((P0_1_ k_ ∨ P4_ k_) ∨ w.heap.size ≤ k_) ∧ some k_ ≠ (v149 : Value).ownBlock ∧ k_ ≠ gb147)) (okp := (fun k_ => ((P0_1_ k_ ∨ P4_ k_) ∨ w.heap.size ≤ k_) ∧ some k_ ≠ (v149 : Value).ownBlock ∧ k_ ≠ gb147)) ?hr ?hp (fun _ hk => hk) ((show ∀ k_, w12.heap.size ≤ k_ → (fun k_ => ((P0_1_ k_ ∨ P4_ k_) ∨ w.heap.size ≤ k_) ∧ some k_ ≠ (v149 : Value).ownBlock ∧ k_ ≠ gb147) k_ from fun k_ hk => ⟨(.inr (Nat.le_trans (below_size (Hb HB.out)) hk)), Kd.fresh' (Kd.N_lt (Nb HO150.out)) k_ hk, Kd.freshB (Bb BK147.out) k_ hk⟩) _ (Nat.le_refl _)) (Below.refl _ _) (Nat.le_refl _) (by simp) ?_; (case hd => rfl); (case hg => rfl); (case hr => first | (go_simp; done) | (go_simp; rfl)); (case hp => exact (Reps.one (show Kd.FK (Kd.slice 32 k32) _ _ l4 [.slice A4 l4.length c4] from (Kd.FK_slice_mk (Kd.V_reads' HO4.out).2.1 (Kd.V_F (Kd.V_mono (Vb HO4.out) (fun k_ hk => ⟨hk.1.1, ⟨hk.2, hk.1.2⟩⟩))))) (Reps.none _ _))); intro v152 w14 ho15 hb hg_ hnew_; clear hg_ hnew_; (first | rw [← Ny151.out] at ho15 | (simp only [Int.reduceToNat] at ho15; rw [← Ny151.out] at ho15)); have n0_ := Aside0.mk (Kd.V_elder' (Vb HO0_1.out) (Kd.N_base ho15) hb); have n1_ := Aside0.mk (Kd.V_elder' (Vb HO4.out) (Kd.N_base ho15) hb); have n2_ := Aside0.mk (Kd.N_elder' (Nb HO150.out) (Kd.N_base ho15) hb); have n3_ := Aside0.mk (Kd.N_lower ho15 (below_size (Hb HB.out))); have n4_ := Aside0.mk (blk_below (Bb BK147.out) hb); have n5_ := Aside0.mk (below_step (Hb HB.out) hb); clear HO0_1; clear HO4; clear HO150; clear BK147; clear HB; have HO0_1 := n0_; have HO4 := n1_; have HO150 := n2_; have HO153 := n3_; have BK147 := n4_; have HB := n5_; clear n0_ n1_ n2_ n3_ n4_ n5_; clear hb ho15; obtain ⟨Ao16, co16, eo16⟩ := Kd.N_slice HO150.out; subst eo16; obtain ⟨Ao17, co17, eo17⟩ := Kd.N_slice HO153.out; subst eo17) | ((with_reducible refine gate_callee (f := 10) rfl ?_); refine goesL_ (some 24) rfl rfl Try.func10 (by kernel_rfl) rfl #[.slice Ao16 y148.length co16, .int .i64 a1, .slice Ao17 y151.length co17] rfl (by (try simp only [List.map_toArray, List.map_cons, List.map_nil]); first | done | rfl | (simp only [List.length_drop, List.length_take]; rfl)) ?_; (with_reducible refine (scrivenerlaw14_long.calls k _ _ y148 a1 _ _ y151 true _ ?side1 ?side2 ?side3 ?side4 A9.out).mono ?_); (case side1 => exact Cb (Kd.N_reads' HO150.out).2.2); (case side2 => exact (Kd.N_reads' HO150.out).2.1); (case side3 => exact Cb (Kd.N_reads' HO153.out).2.2); (case side4 => exact (Kd.N_reads' HO153.out).2.1); rintro e w18 ⟨rfl, hb⟩; refine ⟨_, rfl, ?_⟩; have n0_ := Aside0.mk (Kd.V_below (Vb HO0_1.out) hb); have n1_ := Aside0.mk (Kd.V_below (Vb HO4.out) hb); have n2_ := Aside0.mk (Kd.N_below (Nb HO150.out) hb); have n3_ := Aside0.mk (Kd.N_below (Nb HO153.out) hb); have n4_ := Aside0.mk (blk_below (Bb BK147.out) hb); have n5_ := Aside0.mk (below_step (Hb HB.out) hb); clear HO0_1; clear HO4; clear HO150; clear HO153; clear BK147; clear HB; have HO0_1 := n0_; have HO4 := n1_; have HO150 := n2_; have HO153 := n3_; have BK147 := n4_; have HB := n5_; clear n0_ n1_ n2_ n3_ n4_ n5_; (try clear hb); (try clear hb2); (try clear hk); (try clear hi)))
      go_meet
      case rel => exact ⟨_, (true), (by first | rfl | (simp; done) | (simp [*]; done)), H', ⟨by first | omega | exact Nat.le_refl _⟩, ⟨by (with_reducible repeat (first | apply Kd.V_alloc | apply Kd.V_drewN | apply Kd.V_drew)); exact Kd.V_mono HO4.out (fun _ hk => ⟨hk.1.1.1, hk.1.1.2⟩)⟩, ⟨by (with_reducible repeat (first | apply Kd.V_alloc | apply Kd.V_drewN | apply Kd.V_drew)); exact Kd.V_mono HO0_1.out (fun _ hk => ⟨hk.1.1.1, hk.1.1.2⟩)⟩, ⟨by (with_reducible repeat (first | refine blk_drewN ?_ _ | refine blk_drew ?_ | refine blk_alloc ?_ _)); exact BK147.out⟩, ⟨by repeat (first | (with_reducible first | exact HB.out | apply below_alloc | apply pw_below_drewN | apply below_drew1 | refine below_set ?_ GE147.out) | exact HB.out)⟩⟩
    · replace c10 := Bool.eq_false_iff.mpr c10
      subst c10
      rw [if_neg (show ¬ (false = true) by decide)] at H
      by_cases c19 : a1 < 1
      · rw [if_pos c19] at H
        have c19b0 : decide (a1 < 1) = true := decide_eq_true c19
        clear c19
        (first | rw [c19b0] | (simp only [i64_w, i32_w]; rw [c19b0]) | skip)
        have H' := Aside0.mk H
        clear H
        have hcz20_0 : w8.cell? ⟨gb147, 0, none⟩ = some (.int .u64 a0_0) := (blk_cell BK147.out 0).trans rfl
        have hcz20_1 : w8.cell? ⟨gb147, 1, none⟩ = some (.slice A0_1 l0_1.length c0_1) := (blk_cell BK147.out 1).trans rfl
        have hfz20_0 := blk_frozen BK147.out 0
        have hfz20_1 := blk_frozen BK147.out 1
        go_wp2_with (first | ((with_reducible refine gate_dst (N := 20) rfl ?_); (try (refine gate_guard (by rfl) ?_; dsimp only)); refine Kd.N_lit k25 _ 25 ?hg (N' := 20) ?hd (xs := ([(⟨a0_0, l0_1⟩ : S25)] : List (S25))) (inner := [.int .u64 a0_0, .slice A0_1 l0_1.length c0_1]) (ok := (fun k_ => ((P0_1_ k_ ∨ P4_ k_) ∨ w.heap.size ≤ k_) ∧ k_ ≠ gb147)) (okp := (fun k_ => ((P0_1_ k_ ∨ P4_ k_) ∨ w.heap.size ≤ k_) ∧ k_ ≠ gb147)) ?hr ?hp (fun _ hk => hk) ((show ∀ k_, w8.heap.size ≤ k_ → (fun k_ => ((P0_1_ k_ ∨ P4_ k_) ∨ w.heap.size ≤ k_) ∧ k_ ≠ gb147) k_ from fun k_ hk => ⟨(.inr (Nat.le_trans (below_size (Hb HB.out)) hk)), Kd.freshB (Bb BK147.out) k_ hk⟩) _ (Nat.le_refl _)) (Below.refl _ _) (Nat.le_refl _) (by simp) ?_; (case hd => rfl); (case hg => rfl); (case hr => first | (go_simp; done) | (go_simp; rfl)); (case hp => exact (Reps.c2 (show Kd.FK k25 _ _ (⟨a0_0, l0_1⟩ : S25) [.int .u64 a0_0, .slice A0_1 l0_1.length c0_1] from (k25_mkF _ _ (⟨a0_0, l0_1⟩ : S25) (Kd.V_reads' HO0_1.out).2.1 (Kd.V_F (Kd.V_mono (Vb HO0_1.out) (fun k_ hk => ⟨hk.1, hk.2⟩))))) (Reps.none _ _))); intro v149 w21 ho22 hb hg_ hnew_; clear hg_ hnew_; (first | rw [← Ny148.out] at ho22 | (simp only [Int.reduceToNat] at ho22; rw [← Ny148.out] at ho22)); have n0_ := Aside0.mk (Kd.V_elder' (Vb HO0_1.out) (Kd.N_base ho22) hb); have n1_ := Aside0.mk (Kd.V_elder' (Vb HO4.out) (Kd.N_base ho22) hb); have n2_ := Aside0.mk (Kd.N_lower ho22 (below_size (Hb HB.out))); have n3_ := Aside0.mk (blk_below (Bb BK147.out) hb); have n4_ := Aside0.mk (below_step (Hb HB.out) hb); clear HO0_1; clear HO4; clear BK147; clear HB; have HO0_1 := n0_; have HO4 := n1_; have HO150 := n2_; have BK147 := n3_; have HB := n4_; clear n0_ n1_ n2_ n3_ n4_; clear hb ho22) | ((with_reducible refine gate_dst (N := 23) rfl ?_); (try (refine gate_guard (by rfl) ?_; dsimp only)); refine Kd.N_lit (Kd.slice 32 k32) _ 23 ?hg (N' := 23) ?hd (xs := ([l4] : List (List (S32)))) (inner := [.slice A4 l4.length c4]) (ok := (fun k_ => ((P0_1_ k_ ∨ P4_ k_) ∨ w.heap.size ≤ k_) ∧ some k_ ≠ (v149 : Value).ownBlock ∧ k_ ≠ gb147)) (okp := (fun k_ => ((P0_1_ k_ ∨ P4_ k_) ∨ w.heap.size ≤ k_) ∧ some k_ ≠ (v149 : Value).ownBlock ∧ k_ ≠ gb147)) ?hr ?hp (fun _ hk => hk) ((show ∀ k_, w21.heap.size ≤ k_ → (fun k_ => ((P0_1_ k_ ∨ P4_ k_) ∨ w.heap.size ≤ k_) ∧ some k_ ≠ (v149 : Value).ownBlock ∧ k_ ≠ gb147) k_ from fun k_ hk => ⟨(.inr (Nat.le_trans (below_size (Hb HB.out)) hk)), Kd.fresh' (Kd.N_lt (Nb HO150.out)) k_ hk, Kd.freshB (Bb BK147.out) k_ hk⟩) _ (Nat.le_refl _)) (Below.refl _ _) (Nat.le_refl _) (by simp) ?_; (case hd => rfl); (case hg => rfl); (case hr => first | (go_simp; done) | (go_simp; rfl)); (case hp => exact (Reps.one (show Kd.FK (Kd.slice 32 k32) _ _ l4 [.slice A4 l4.length c4] from (Kd.FK_slice_mk (Kd.V_reads' HO4.out).2.1 (Kd.V_F (Kd.V_mono (Vb HO4.out) (fun k_ hk => ⟨hk.1.1, ⟨hk.2, hk.1.2⟩⟩))))) (Reps.none _ _))); intro v152 w23 ho24 hb hg_ hnew_; clear hg_ hnew_; (first | rw [← Ny151.out] at ho24 | (simp only [Int.reduceToNat] at ho24; rw [← Ny151.out] at ho24)); have n0_ := Aside0.mk (Kd.V_elder' (Vb HO0_1.out) (Kd.N_base ho24) hb); have n1_ := Aside0.mk (Kd.V_elder' (Vb HO4.out) (Kd.N_base ho24) hb); have n2_ := Aside0.mk (Kd.N_elder' (Nb HO150.out) (Kd.N_base ho24) hb); have n3_ := Aside0.mk (Kd.N_lower ho24 (below_size (Hb HB.out))); have n4_ := Aside0.mk (blk_below (Bb BK147.out) hb); have n5_ := Aside0.mk (below_step (Hb HB.out) hb); clear HO0_1; clear HO4; clear HO150; clear BK147; clear HB; have HO0_1 := n0_; have HO4 := n1_; have HO150 := n2_; have HO153 := n3_; have BK147 := n4_; have HB := n5_; clear n0_ n1_ n2_ n3_ n4_ n5_; clear hb ho24; obtain ⟨Ao25, co25, eo25⟩ := Kd.N_slice HO150.out; subst eo25; obtain ⟨Ao26, co26, eo26⟩ := Kd.N_slice HO153.out; subst eo26) | ((with_reducible refine gate_callee (f := 10) rfl ?_); refine goesL_ (some 24) rfl rfl Try.func10 (by kernel_rfl) rfl #[.slice Ao25 y148.length co25, .int .i64 a1, .slice Ao26 y151.length co26] rfl (by (try simp only [List.map_toArray, List.map_cons, List.map_nil]); first | done | rfl | (simp only [List.length_drop, List.length_take]; rfl)) ?_; (with_reducible refine (scrivenerlaw14_long.calls k _ _ y148 a1 _ _ y151 false _ ?side1 ?side2 ?side3 ?side4 A9.out).mono ?_); (case side1 => exact Cb (Kd.N_reads' HO150.out).2.2); (case side2 => exact (Kd.N_reads' HO150.out).2.1); (case side3 => exact Cb (Kd.N_reads' HO153.out).2.2); (case side4 => exact (Kd.N_reads' HO153.out).2.1); rintro e w27 ⟨rfl, hb⟩; refine ⟨_, rfl, ?_⟩; have n0_ := Aside0.mk (Kd.V_below (Vb HO0_1.out) hb); have n1_ := Aside0.mk (Kd.V_below (Vb HO4.out) hb); have n2_ := Aside0.mk (Kd.N_below (Nb HO150.out) hb); have n3_ := Aside0.mk (Kd.N_below (Nb HO153.out) hb); have n4_ := Aside0.mk (blk_below (Bb BK147.out) hb); have n5_ := Aside0.mk (below_step (Hb HB.out) hb); clear HO0_1; clear HO4; clear HO150; clear HO153; clear BK147; clear HB; have HO0_1 := n0_; have HO4 := n1_; have HO150 := n2_; have HO153 := n3_; have BK147 := n4_; have HB := n5_; clear n0_ n1_ n2_ n3_ n4_ n5_; (try clear hb); (try clear hb2); (try clear hk); (try clear hi)))
        go_meet
        case rel => exact ⟨_, (true), (by first | rfl | (simp; done) | (simp [*]; done)), H', ⟨by first | omega | exact Nat.le_refl _⟩, ⟨by (with_reducible repeat (first | apply Kd.V_alloc | apply Kd.V_drewN | apply Kd.V_drew)); exact Kd.V_mono HO4.out (fun _ hk => ⟨hk.1.1.1, hk.1.1.2⟩)⟩, ⟨by (with_reducible repeat (first | apply Kd.V_alloc | apply Kd.V_drewN | apply Kd.V_drew)); exact Kd.V_mono HO0_1.out (fun _ hk => ⟨hk.1.1.1, hk.1.1.2⟩)⟩, ⟨by (with_reducible repeat (first | refine blk_drewN ?_ _ | refine blk_drew ?_ | refine blk_alloc ?_ _)); exact BK147.out⟩, ⟨by repeat (first | (with_reducible first | exact HB.out | apply below_alloc | apply pw_below_drewN | apply below_drew1 | refine below_set ?_ GE147.out) | exact HB.out)⟩⟩
      · rw [if_neg c19] at H
        have c19b0 : decide (a1 < 1) = false := decide_eq_false c19
        clear c19
        (first | rw [c19b0] | (simp only [i64_w, i32_w]; rw [c19b0]) | skip)
        by_cases c28 : a2 < 1
        · rw [if_pos c28] at H
          have c28b0 : decide (a2 < 1) = true := decide_eq_true c28
          clear c28
          have H' := Aside0.mk H
          clear H
          have hcz29_0 : w8.cell? ⟨gb147, 0, none⟩ = some (.int .u64 a0_0) := (blk_cell BK147.out 0).trans rfl
          have hcz29_1 : w8.cell? ⟨gb147, 1, none⟩ = some (.slice A0_1 l0_1.length c0_1) := (blk_cell BK147.out 1).trans rfl
          have hfz29_0 := blk_frozen BK147.out 0
          have hfz29_1 := blk_frozen BK147.out 1
          go_wp2_with (first | ((with_reducible refine gate_dst (N := 20) rfl ?_); (try (refine gate_guard (by rfl) ?_; dsimp only)); refine Kd.N_lit k25 _ 25 ?hg (N' := 20) ?hd (xs := ([(⟨a0_0, l0_1⟩ : S25)] : List (S25))) (inner := [.int .u64 a0_0, .slice A0_1 l0_1.length c0_1]) (ok := (fun k_ => ((P0_1_ k_ ∨ P4_ k_) ∨ w.heap.size ≤ k_) ∧ k_ ≠ gb147)) (okp := (fun k_ => ((P0_1_ k_ ∨ P4_ k_) ∨ w.heap.size ≤ k_) ∧ k_ ≠ gb147)) ?hr ?hp (fun _ hk => hk) ((show ∀ k_, w8.heap.size ≤ k_ → (fun k_ => ((P0_1_ k_ ∨ P4_ k_) ∨ w.heap.size ≤ k_) ∧ k_ ≠ gb147) k_ from fun k_ hk => ⟨(.inr (Nat.le_trans (below_size (Hb HB.out)) hk)), Kd.freshB (Bb BK147.out) k_ hk⟩) _ (Nat.le_refl _)) (Below.refl _ _) (Nat.le_refl _) (by simp) ?_; (case hd => rfl); (case hg => rfl); (case hr => first | (go_simp; done) | (go_simp; rfl)); (case hp => exact (Reps.c2 (show Kd.FK k25 _ _ (⟨a0_0, l0_1⟩ : S25) [.int .u64 a0_0, .slice A0_1 l0_1.length c0_1] from (k25_mkF _ _ (⟨a0_0, l0_1⟩ : S25) (Kd.V_reads' HO0_1.out).2.1 (Kd.V_F (Kd.V_mono (Vb HO0_1.out) (fun k_ hk => ⟨hk.1, hk.2⟩))))) (Reps.none _ _))); intro v149 w30 ho31 hb hg_ hnew_; clear hg_ hnew_; (first | rw [← Ny148.out] at ho31 | (simp only [Int.reduceToNat] at ho31; rw [← Ny148.out] at ho31)); have n0_ := Aside0.mk (Kd.V_elder' (Vb HO0_1.out) (Kd.N_base ho31) hb); have n1_ := Aside0.mk (Kd.V_elder' (Vb HO4.out) (Kd.N_base ho31) hb); have n2_ := Aside0.mk (Kd.N_lower ho31 (below_size (Hb HB.out))); have n3_ := Aside0.mk (blk_below (Bb BK147.out) hb); have n4_ := Aside0.mk (below_step (Hb HB.out) hb); clear HO0_1; clear HO4; clear BK147; clear HB; have HO0_1 := n0_; have HO4 := n1_; have HO150 := n2_; have BK147 := n3_; have HB := n4_; clear n0_ n1_ n2_ n3_ n4_; clear hb ho31) | ((with_reducible refine gate_dst (N := 23) rfl ?_); (try (refine gate_guard (by rfl) ?_; dsimp only)); refine Kd.N_lit (Kd.slice 32 k32) _ 23 ?hg (N' := 23) ?hd (xs := ([l4] : List (List (S32)))) (inner := [.slice A4 l4.length c4]) (ok := (fun k_ => ((P0_1_ k_ ∨ P4_ k_) ∨ w.heap.size ≤ k_) ∧ some k_ ≠ (v149 : Value).ownBlock ∧ k_ ≠ gb147)) (okp := (fun k_ => ((P0_1_ k_ ∨ P4_ k_) ∨ w.heap.size ≤ k_) ∧ some k_ ≠ (v149 : Value).ownBlock ∧ k_ ≠ gb147)) ?hr ?hp (fun _ hk => hk) ((show ∀ k_, w30.heap.size ≤ k_ → (fun k_ => ((P0_1_ k_ ∨ P4_ k_) ∨ w.heap.size ≤ k_) ∧ some k_ ≠ (v149 : Value).ownBlock ∧ k_ ≠ gb147) k_ from fun k_ hk => ⟨(.inr (Nat.le_trans (below_size (Hb HB.out)) hk)), Kd.fresh' (Kd.N_lt (Nb HO150.out)) k_ hk, Kd.freshB (Bb BK147.out) k_ hk⟩) _ (Nat.le_refl _)) (Below.refl _ _) (Nat.le_refl _) (by simp) ?_; (case hd => rfl); (case hg => rfl); (case hr => first | (go_simp; done) | (go_simp; rfl)); (case hp => exact (Reps.one (show Kd.FK (Kd.slice 32 k32) _ _ l4 [.slice A4 l4.length c4] from (Kd.FK_slice_mk (Kd.V_reads' HO4.out).2.1 (Kd.V_F (Kd.V_mono (Vb HO4.out) (fun k_ hk => ⟨hk.1.1, ⟨hk.2, hk.1.2⟩⟩))))) (Reps.none _ _))); intro v152 w32 ho33 hb hg_ hnew_; clear hg_ hnew_; (first | rw [← Ny151.out] at ho33 | (simp only [Int.reduceToNat] at ho33; rw [← Ny151.out] at ho33)); have n0_ := Aside0.mk (Kd.V_elder' (Vb HO0_1.out) (Kd.N_base ho33) hb); have n1_ := Aside0.mk (Kd.V_elder' (Vb HO4.out) (Kd.N_base ho33) hb); have n2_ := Aside0.mk (Kd.N_elder' (Nb HO150.out) (Kd.N_base ho33) hb); have n3_ := Aside0.mk (Kd.N_lower ho33 (below_size (Hb HB.out))); have n4_ := Aside0.mk (blk_below (Bb BK147.out) hb); have n5_ := Aside0.mk (below_step (Hb HB.out) hb); clear HO0_1; clear HO4; clear HO150; clear BK147; clear HB; have HO0_1 := n0_; have HO4 := n1_; have HO150 := n2_; have HO153 := n3_; have BK147 := n4_; have HB := n5_; clear n0_ n1_ n2_ n3_ n4_ n5_; clear hb ho33; obtain ⟨Ao34, co34, eo34⟩ := Kd.N_slice HO150.out; subst eo34; obtain ⟨Ao35, co35, eo35⟩ := Kd.N_slice HO153.out; subst eo35) | ((with_reducible refine gate_callee (f := 10) rfl ?_); refine goesL_ (some 24) rfl rfl Try.func10 (by kernel_rfl) rfl #[.slice Ao34 y148.length co34, .int .i64 a1, .slice Ao35 y151.length co35] rfl (by (try simp only [List.map_toArray, List.map_cons, List.map_nil]); first | done | rfl | (simp only [List.length_drop, List.length_take]; rfl)) ?_; (with_reducible refine (scrivenerlaw14_long.calls k _ _ y148 a1 _ _ y151 false _ ?side1 ?side2 ?side3 ?side4 A9.out).mono ?_); (case side1 => exact Cb (Kd.N_reads' HO150.out).2.2); (case side2 => exact (Kd.N_reads' HO150.out).2.1); (case side3 => exact Cb (Kd.N_reads' HO153.out).2.2); (case side4 => exact (Kd.N_reads' HO153.out).2.1); rintro e w36 ⟨rfl, hb⟩; refine ⟨_, rfl, ?_⟩; have n0_ := Aside0.mk (Kd.V_below (Vb HO0_1.out) hb); have n1_ := Aside0.mk (Kd.V_below (Vb HO4.out) hb); have n2_ := Aside0.mk (Kd.N_below (Nb HO150.out) hb); have n3_ := Aside0.mk (Kd.N_below (Nb HO153.out) hb); have n4_ := Aside0.mk (blk_below (Bb BK147.out) hb); have n5_ := Aside0.mk (below_step (Hb HB.out) hb); clear HO0_1; clear HO4; clear HO150; clear HO153; clear BK147; clear HB; have HO0_1 := n0_; have HO4 := n1_; have HO150 := n2_; have HO153 := n3_; have BK147 := n4_; have HB := n5_; clear n0_ n1_ n2_ n3_ n4_ n5_; (try clear hb); (try clear hb2); (try clear hk); (try clear hi)))
          go_meet
          case rel => exact ⟨_, (true), (by first | rfl | (simp; done) | (simp [*]; done)), H', ⟨by first | omega | exact Nat.le_refl _⟩, ⟨by (with_reducible repeat (first | apply Kd.V_alloc | apply Kd.V_drewN | apply Kd.V_drew)); exact Kd.V_mono HO4.out (fun _ hk => ⟨hk.1.1.1, hk.1.1.2⟩)⟩, ⟨by (with_reducible repeat (first | apply Kd.V_alloc | apply Kd.V_drewN | apply Kd.V_drew)); exact Kd.V_mono HO0_1.out (fun _ hk => ⟨hk.1.1.1, hk.1.1.2⟩)⟩, ⟨by (with_reducible repeat (first | refine blk_drewN ?_ _ | refine blk_drew ?_ | refine blk_alloc ?_ _)); exact BK147.out⟩, ⟨by repeat (first | (with_reducible first | exact HB.out | apply below_alloc | apply pw_below_drewN | apply below_drew1 | refine below_set ?_ GE147.out) | exact HB.out)⟩⟩
        · rw [if_neg c28] at H
          have c28b0 : decide (a2 < 1) = false := decide_eq_false c28
          clear c28
          by_cases c37 : a2 > a1
          · rw [if_pos c37] at H
            have c37b0 : decide (a1 < a2) = true := decide_eq_true c37
            clear c37
            have H' := Aside0.mk H
            clear H
            have hcz38_0 : w8.cell? ⟨gb147, 0, none⟩ = some (.int .u64 a0_0) := (blk_cell BK147.out 0).trans rfl
            have hcz38_1 : w8.cell? ⟨gb147, 1, none⟩ = some (.slice A0_1 l0_1.length c0_1) := (blk_cell BK147.out 1).trans rfl
            have hfz38_0 := blk_frozen BK147.out 0
            have hfz38_1 := blk_frozen BK147.out 1
            go_wp2_with (first | ((with_reducible refine gate_dst (N := 20) rfl ?_); (try (refine gate_guard (by rfl) ?_; dsimp only)); refine Kd.N_lit k25 _ 25 ?hg (N' := 20) ?hd (xs := ([(⟨a0_0, l0_1⟩ : S25)] : List (S25))) (inner := [.int .u64 a0_0, .slice A0_1 l0_1.length c0_1]) (ok := (fun k_ => ((P0_1_ k_ ∨ P4_ k_) ∨ w.heap.size ≤ k_) ∧ k_ ≠ gb147)) (okp := (fun k_ => ((P0_1_ k_ ∨ P4_ k_) ∨ w.heap.size ≤ k_) ∧ k_ ≠ gb147)) ?hr ?hp (fun _ hk => hk) ((show ∀ k_, w8.heap.size ≤ k_ → (fun k_ => ((P0_1_ k_ ∨ P4_ k_) ∨ w.heap.size ≤ k_) ∧ k_ ≠ gb147) k_ from fun k_ hk => ⟨(.inr (Nat.le_trans (below_size (Hb HB.out)) hk)), Kd.freshB (Bb BK147.out) k_ hk⟩) _ (Nat.le_refl _)) (Below.refl _ _) (Nat.le_refl _) (by simp) ?_; (case hd => rfl); (case hg => rfl); (case hr => first | (go_simp; done) | (go_simp; rfl)); (case hp => exact (Reps.c2 (show Kd.FK k25 _ _ (⟨a0_0, l0_1⟩ : S25) [.int .u64 a0_0, .slice A0_1 l0_1.length c0_1] from (k25_mkF _ _ (⟨a0_0, l0_1⟩ : S25) (Kd.V_reads' HO0_1.out).2.1 (Kd.V_F (Kd.V_mono (Vb HO0_1.out) (fun k_ hk => ⟨hk.1, hk.2⟩))))) (Reps.none _ _))); intro v149 w39 ho40 hb hg_ hnew_; clear hg_ hnew_; (first | rw [← Ny148.out] at ho40 | (simp only [Int.reduceToNat] at ho40; rw [← Ny148.out] at ho40)); have n0_ := Aside0.mk (Kd.V_elder' (Vb HO0_1.out) (Kd.N_base ho40) hb); have n1_ := Aside0.mk (Kd.V_elder' (Vb HO4.out) (Kd.N_base ho40) hb); have n2_ := Aside0.mk (Kd.N_lower ho40 (below_size (Hb HB.out))); have n3_ := Aside0.mk (blk_below (Bb BK147.out) hb); have n4_ := Aside0.mk (below_step (Hb HB.out) hb); clear HO0_1; clear HO4; clear BK147; clear HB; have HO0_1 := n0_; have HO4 := n1_; have HO150 := n2_; have BK147 := n3_; have HB := n4_; clear n0_ n1_ n2_ n3_ n4_; clear hb ho40) | ((with_reducible refine gate_dst (N := 23) rfl ?_); (try (refine gate_guard (by rfl) ?_; dsimp only)); refine Kd.N_lit (Kd.slice 32 k32) _ 23 ?hg (N' := 23) ?hd (xs := ([l4] : List (List (S32)))) (inner := [.slice A4 l4.length c4]) (ok := (fun k_ => ((P0_1_ k_ ∨ P4_ k_) ∨ w.heap.size ≤ k_) ∧ some k_ ≠ (v149 : Value).ownBlock ∧ k_ ≠ gb147)) (okp := (fun k_ => ((P0_1_ k_ ∨ P4_ k_) ∨ w.heap.size ≤ k_) ∧ some k_ ≠ (v149 : Value).ownBlock ∧ k_ ≠ gb147)) ?hr ?hp (fun _ hk => hk) ((show ∀ k_, w39.heap.size ≤ k_ → (fun k_ => ((P0_1_ k_ ∨ P4_ k_) ∨ w.heap.size ≤ k_) ∧ some k_ ≠ (v149 : Value).ownBlock ∧ k_ ≠ gb147) k_ from fun k_ hk => ⟨(.inr (Nat.le_trans (below_size (Hb HB.out)) hk)), Kd.fresh' (Kd.N_lt (Nb HO150.out)) k_ hk, Kd.freshB (Bb BK147.out) k_ hk⟩) _ (Nat.le_refl _)) (Below.refl _ _) (Nat.le_refl _) (by simp) ?_; (case hd => rfl); (case hg => rfl); (case hr => first | (go_simp; done) | (go_simp; rfl)); (case hp => exact (Reps.one (show Kd.FK (Kd.slice 32 k32) _ _ l4 [.slice A4 l4.length c4] from (Kd.FK_slice_mk (Kd.V_reads' HO4.out).2.1 (Kd.V_F (Kd.V_mono (Vb HO4.out) (fun k_ hk => ⟨hk.1.1, ⟨hk.2, hk.1.2⟩⟩))))) (Reps.none _ _))); intro v152 w41 ho42 hb hg_ hnew_; clear hg_ hnew_; (first | rw [← Ny151.out] at ho42 | (simp only [Int.reduceToNat] at ho42; rw [← Ny151.out] at ho42)); have n0_ := Aside0.mk (Kd.V_elder' (Vb HO0_1.out) (Kd.N_base ho42) hb); have n1_ := Aside0.mk (Kd.V_elder' (Vb HO4.out) (Kd.N_base ho42) hb); have n2_ := Aside0.mk (Kd.N_elder' (Nb HO150.out) (Kd.N_base ho42) hb); have n3_ := Aside0.mk (Kd.N_lower ho42 (below_size (Hb HB.out))); have n4_ := Aside0.mk (blk_below (Bb BK147.out) hb); have n5_ := Aside0.mk (below_step (Hb HB.out) hb); clear HO0_1; clear HO4; clear HO150; clear BK147; clear HB; have HO0_1 := n0_; have HO4 := n1_; have HO150 := n2_; have HO153 := n3_; have BK147 := n4_; have HB := n5_; clear n0_ n1_ n2_ n3_ n4_ n5_; clear hb ho42; obtain ⟨Ao43, co43, eo43⟩ := Kd.N_slice HO150.out; subst eo43; obtain ⟨Ao44, co44, eo44⟩ := Kd.N_slice HO153.out; subst eo44) | ((with_reducible refine gate_callee (f := 10) rfl ?_); refine goesL_ (some 24) rfl rfl Try.func10 (by kernel_rfl) rfl #[.slice Ao43 y148.length co43, .int .i64 a1, .slice Ao44 y151.length co44] rfl (by (try simp only [List.map_toArray, List.map_cons, List.map_nil]); first | done | rfl | (simp only [List.length_drop, List.length_take]; rfl)) ?_; (with_reducible refine (scrivenerlaw14_long.calls k _ _ y148 a1 _ _ y151 false _ ?side1 ?side2 ?side3 ?side4 A9.out).mono ?_); (case side1 => exact Cb (Kd.N_reads' HO150.out).2.2); (case side2 => exact (Kd.N_reads' HO150.out).2.1); (case side3 => exact Cb (Kd.N_reads' HO153.out).2.2); (case side4 => exact (Kd.N_reads' HO153.out).2.1); rintro e w45 ⟨rfl, hb⟩; refine ⟨_, rfl, ?_⟩; have n0_ := Aside0.mk (Kd.V_below (Vb HO0_1.out) hb); have n1_ := Aside0.mk (Kd.V_below (Vb HO4.out) hb); have n2_ := Aside0.mk (Kd.N_below (Nb HO150.out) hb); have n3_ := Aside0.mk (Kd.N_below (Nb HO153.out) hb); have n4_ := Aside0.mk (blk_below (Bb BK147.out) hb); have n5_ := Aside0.mk (below_step (Hb HB.out) hb); clear HO0_1; clear HO4; clear HO150; clear HO153; clear BK147; clear HB; have HO0_1 := n0_; have HO4 := n1_; have HO150 := n2_; have HO153 := n3_; have BK147 := n4_; have HB := n5_; clear n0_ n1_ n2_ n3_ n4_ n5_; (try clear hb); (try clear hb2); (try clear hk); (try clear hi)))
            go_meet
            case rel => exact ⟨_, (true), (by first | rfl | (simp; done) | (simp [*]; done)), H', ⟨by first | omega | exact Nat.le_refl _⟩, ⟨by (with_reducible repeat (first | apply Kd.V_alloc | apply Kd.V_drewN | apply Kd.V_drew)); exact Kd.V_mono HO4.out (fun _ hk => ⟨hk.1.1.1, hk.1.1.2⟩)⟩, ⟨by (with_reducible repeat (first | apply Kd.V_alloc | apply Kd.V_drewN | apply Kd.V_drew)); exact Kd.V_mono HO0_1.out (fun _ hk => ⟨hk.1.1.1, hk.1.1.2⟩)⟩, ⟨by (with_reducible repeat (first | refine blk_drewN ?_ _ | refine blk_drew ?_ | refine blk_alloc ?_ _)); exact BK147.out⟩, ⟨by repeat (first | (with_reducible first | exact HB.out | apply below_alloc | apply pw_below_drewN | apply below_drew1 | refine below_set ?_ GE147.out) | exact HB.out)⟩⟩
          · rw [if_neg c37] at H
            have c37b0 : decide (a1 < a2) = false := decide_eq_false c37
            clear c37
            obtain ⟨y155, hy155⟩ : ∃ y_ : List (S25), y_ = (([(⟨1, l0_1⟩ : S25)] : List (S25))) := ⟨_, rfl⟩
            replace H : ((scrivenerref07_MayFrags.f k a1 y155).bind fun t158 => (if t158 = true then (if a3 < a0_0 then (scrivenerlaw14_StripeMeets.j0 k a1 a2 a3 l4 a5 true a0_0 l0_1) else (scrivenerlaw14_StripeMeets.j0 k a1 a2 a3 l4 a5 (decide (a0_0 > 1152921504606846976)) a0_0 l0_1)) else (scrivenerlaw14_StripeMeets.j0 k a1 a2 a3 l4 a5 true a0_0 l0_1))) = some r := by first | (rw [hy155]; with_reducible exact H) | (have H2_ := (Option.bind_some _ _).symm.trans H; rw [hy155]; with_reducible exact H2_) | (have H2_ := (Option.bind_some _ _).symm.trans H; with_reducible exact H2_) | with_reducible exact H | (rw [hy155]; exact H) | exact H
            have Ny155 := Aside0.mk hy155
            clear hy155
            replace H := Option.bind_eq_some_iff.mp H
            obtain ⟨t158, A460, H⟩ := H
            replace H : (if t158 = true then (if a3 < a0_0 then (scrivenerlaw14_StripeMeets.j0 k a1 a2 a3 l4 a5 true a0_0 l0_1) else (scrivenerlaw14_StripeMeets.j0 k a1 a2 a3 l4 a5 (decide (a0_0 > 1152921504606846976)) a0_0 l0_1)) else (scrivenerlaw14_StripeMeets.j0 k a1 a2 a3 l4 a5 true a0_0 l0_1)) = some r := H
            have A46 := Aside0.mk A460
            clear A460
            by_cases c47 : t158 = true
            · subst c47
              rw [if_pos rfl] at H
              by_cases c48 : a3 < a0_0
              · rw [if_pos c48] at H
                have c48b0 : decide (a3 < a0_0) = true := decide_eq_true c48
                clear c48
                have H' := Aside0.mk H
                clear H
                have hcz49_0 : w8.cell? ⟨gb147, 0, none⟩ = some (.int .u64 a0_0) := (blk_cell BK147.out 0).trans rfl
                have hcz49_1 : w8.cell? ⟨gb147, 1, none⟩ = some (.slice A0_1 l0_1.length c0_1) := (blk_cell BK147.out 1).trans rfl
                have hfz49_0 := blk_frozen BK147.out 0
                have hfz49_1 := blk_frozen BK147.out 1
                go_wp2_with (first | ((with_reducible refine gate_dst (N := 20) rfl ?_); (try (refine gate_guard (by rfl) ?_; dsimp only)); refine Kd.N_lit k25 _ 25 ?hg (N' := 20) ?hd (xs := ([(⟨a0_0, l0_1⟩ : S25)] : List (S25))) (inner := [.int .u64 a0_0, .slice A0_1 l0_1.length c0_1]) (ok := (fun k_ => ((P0_1_ k_ ∨ P4_ k_) ∨ w.heap.size ≤ k_) ∧ k_ ≠ gb147)) (okp := (fun k_ => ((P0_1_ k_ ∨ P4_ k_) ∨ w.heap.size ≤ k_) ∧ k_ ≠ gb147)) ?hr ?hp (fun _ hk => hk) ((show ∀ k_, w8.heap.size ≤ k_ → (fun k_ => ((P0_1_ k_ ∨ P4_ k_) ∨ w.heap.size ≤ k_) ∧ k_ ≠ gb147) k_ from fun k_ hk => ⟨(.inr (Nat.le_trans (below_size (Hb HB.out)) hk)), Kd.freshB (Bb BK147.out) k_ hk⟩) _ (Nat.le_refl _)) (Below.refl _ _) (Nat.le_refl _) (by simp) ?_; (case hd => rfl); (case hg => rfl); (case hr => first | (go_simp; done) | (go_simp; rfl)); (case hp => exact (Reps.c2 (show Kd.FK k25 _ _ (⟨a0_0, l0_1⟩ : S25) [.int .u64 a0_0, .slice A0_1 l0_1.length c0_1] from (k25_mkF _ _ (⟨a0_0, l0_1⟩ : S25) (Kd.V_reads' HO0_1.out).2.1 (Kd.V_F (Kd.V_mono (Vb HO0_1.out) (fun k_ hk => ⟨hk.1, hk.2⟩))))) (Reps.none _ _))); intro v149 w50 ho51 hb hg_ hnew_; clear hg_ hnew_; (first | rw [← Ny148.out] at ho51 | (simp only [Int.reduceToNat] at ho51; rw [← Ny148.out] at ho51)); have n0_ := Aside0.mk (Kd.V_elder' (Vb HO0_1.out) (Kd.N_base ho51) hb); have n1_ := Aside0.mk (Kd.V_elder' (Vb HO4.out) (Kd.N_base ho51) hb); have n2_ := Aside0.mk (Kd.N_lower ho51 (below_size (Hb HB.out))); have n3_ := Aside0.mk (blk_below (Bb BK147.out) hb); have n4_ := Aside0.mk (below_step (Hb HB.out) hb); clear HO0_1; clear HO4; clear BK147; clear HB; have HO0_1 := n0_; have HO4 := n1_; have HO150 := n2_; have BK147 := n3_; have HB := n4_; clear n0_ n1_ n2_ n3_ n4_; clear hb ho51) | ((with_reducible refine gate_dst (N := 23) rfl ?_); (try (refine gate_guard (by rfl) ?_; dsimp only)); refine Kd.N_lit (Kd.slice 32 k32) _ 23 ?hg (N' := 23) ?hd (xs := ([l4] : List (List (S32)))) (inner := [.slice A4 l4.length c4]) (ok := (fun k_ => ((P0_1_ k_ ∨ P4_ k_) ∨ w.heap.size ≤ k_) ∧ some k_ ≠ (v149 : Value).ownBlock ∧ k_ ≠ gb147)) (okp := (fun k_ => ((P0_1_ k_ ∨ P4_ k_) ∨ w.heap.size ≤ k_) ∧ some k_ ≠ (v149 : Value).ownBlock ∧ k_ ≠ gb147)) ?hr ?hp (fun _ hk => hk) ((show ∀ k_, w50.heap.size ≤ k_ → (fun k_ => ((P0_1_ k_ ∨ P4_ k_) ∨ w.heap.size ≤ k_) ∧ some k_ ≠ (v149 : Value).ownBlock ∧ k_ ≠ gb147) k_ from fun k_ hk => ⟨(.inr (Nat.le_trans (below_size (Hb HB.out)) hk)), Kd.fresh' (Kd.N_lt (Nb HO150.out)) k_ hk, Kd.freshB (Bb BK147.out) k_ hk⟩) _ (Nat.le_refl _)) (Below.refl _ _) (Nat.le_refl _) (by simp) ?_; (case hd => rfl); (case hg => rfl); (case hr => first | (go_simp; done) | (go_simp; rfl)); (case hp => exact (Reps.one (show Kd.FK (Kd.slice 32 k32) _ _ l4 [.slice A4 l4.length c4] from (Kd.FK_slice_mk (Kd.V_reads' HO4.out).2.1 (Kd.V_F (Kd.V_mono (Vb HO4.out) (fun k_ hk => ⟨hk.1.1, ⟨hk.2, hk.1.2⟩⟩))))) (Reps.none _ _))); intro v152 w52 ho53 hb hg_ hnew_; clear hg_ hnew_; (first | rw [← Ny151.out] at ho53 | (simp only [Int.reduceToNat] at ho53; rw [← Ny151.out] at ho53)); have n0_ := Aside0.mk (Kd.V_elder' (Vb HO0_1.out) (Kd.N_base ho53) hb); have n1_ := Aside0.mk (Kd.V_elder' (Vb HO4.out) (Kd.N_base ho53) hb); have n2_ := Aside0.mk (Kd.N_elder' (Nb HO150.out) (Kd.N_base ho53) hb); have n3_ := Aside0.mk (Kd.N_lower ho53 (below_size (Hb HB.out))); have n4_ := Aside0.mk (blk_below (Bb BK147.out) hb); have n5_ := Aside0.mk (below_step (Hb HB.out) hb); clear HO0_1; clear HO4; clear HO150; clear BK147; clear HB; have HO0_1 := n0_; have HO4 := n1_; have HO150 := n2_; have HO153 := n3_; have BK147 := n4_; have HB := n5_; clear n0_ n1_ n2_ n3_ n4_ n5_; clear hb ho53; obtain ⟨Ao54, co54, eo54⟩ := Kd.N_slice HO150.out; subst eo54; obtain ⟨Ao55, co55, eo55⟩ := Kd.N_slice HO153.out; subst eo55) | ((with_reducible refine gate_callee (f := 10) rfl ?_); refine goesL_ (some 24) rfl rfl Try.func10 (by kernel_rfl) rfl #[.slice Ao54 y148.length co54, .int .i64 a1, .slice Ao55 y151.length co55] rfl (by (try simp only [List.map_toArray, List.map_cons, List.map_nil]); first | done | rfl | (simp only [List.length_drop, List.length_take]; rfl)) ?_; (with_reducible refine (scrivenerlaw14_long.calls k _ _ y148 a1 _ _ y151 false _ ?side1 ?side2 ?side3 ?side4 A9.out).mono ?_); (case side1 => exact Cb (Kd.N_reads' HO150.out).2.2); (case side2 => exact (Kd.N_reads' HO150.out).2.1); (case side3 => exact Cb (Kd.N_reads' HO153.out).2.2); (case side4 => exact (Kd.N_reads' HO153.out).2.1); rintro e w56 ⟨rfl, hb⟩; refine ⟨_, rfl, ?_⟩; have n0_ := Aside0.mk (Kd.V_below (Vb HO0_1.out) hb); have n1_ := Aside0.mk (Kd.V_below (Vb HO4.out) hb); have n2_ := Aside0.mk (Kd.N_below (Nb HO150.out) hb); have n3_ := Aside0.mk (Kd.N_below (Nb HO153.out) hb); have n4_ := Aside0.mk (blk_below (Bb BK147.out) hb); have n5_ := Aside0.mk (below_step (Hb HB.out) hb); clear HO0_1; clear HO4; clear HO150; clear HO153; clear BK147; clear HB; have HO0_1 := n0_; have HO4 := n1_; have HO150 := n2_; have HO153 := n3_; have BK147 := n4_; have HB := n5_; clear n0_ n1_ n2_ n3_ n4_ n5_; (try clear hb); (try clear hb2); (try clear hk); (try clear hi); have hcz57_0 : w56.cell? ⟨gb147, 0, none⟩ = some (.int .u64 a0_0) := (blk_cell BK147.out 0).trans rfl; have hcz57_1 : w56.cell? ⟨gb147, 1, none⟩ = some (.slice A0_1 l0_1.length c0_1) := (blk_cell BK147.out 1).trans rfl; have hfz57_0 := blk_frozen BK147.out 0; have hfz57_1 := blk_frozen BK147.out 1) | ((with_reducible refine gate_dst (N := 43) rfl ?_); (try (refine gate_guard (by rfl) ?_; dsimp only)); refine Kd.N_lit k25 _ 25 ?hg (N' := 43) ?hd (xs := ([(⟨1, l0_1⟩ : S25)] : List (S25))) (inner := [.int .u64 1, .slice A0_1 l0_1.length c0_1]) (ok := (fun k_ => ((P0_1_ k_ ∨ P4_ k_) ∨ w.heap.size ≤ k_) ∧ some k_ ≠ (.slice Ao54 y148.length co54 : Value).ownBlock ∧ some k_ ≠ (.slice Ao55 y151.length co55 : Value).ownBlock ∧ k_ ≠ gb147)) (okp := (fun k_ => ((P0_1_ k_ ∨ P4_ k_) ∨ w.heap.size ≤ k_) ∧ some k_ ≠ (.slice Ao54 y148.length co54 : Value).ownBlock ∧ some k_ ≠ (.slice Ao55 y151.length co55 : Value).ownBlock ∧ k_ ≠ gb147)) ?hr ?hp (fun _ hk => hk) ((show ∀ k_, w56.heap.size ≤ k_ → (fun k_ => ((P0_1_ k_ ∨ P4_ k_) ∨ w.heap.size ≤ k_) ∧ some k_ ≠ (.slice Ao54 y148.length co54 : Value).ownBlock ∧ some k_ ≠ (.slice Ao55 y151.length co55 : Value).ownBlock ∧ k_ ≠ gb147) k_ from fun k_ hk => ⟨(.inr (Nat.le_trans (below_size (Hb HB.out)) hk)), Kd.fresh' (Kd.N_lt (Nb HO150.out)) k_ hk, Kd.fresh' (Kd.N_lt (Nb HO153.out)) k_ hk, Kd.freshB (Bb BK147.out) k_ hk⟩) _ (Nat.le_refl _)) (Below.refl _ _) (Nat.le_refl _) (by simp) ?_; (case hd => rfl); (case hg => rfl); (case hr => first | (go_simp; done) | (go_simp; rfl)); (case hp => exact (Reps.c2 (show Kd.FK k25 _ _ (⟨1, l0_1⟩ : S25) [.int .u64 1, .slice A0_1 l0_1.length c0_1] from (k25_mkF _ _ (⟨1, l0_1⟩ : S25) (Kd.V_reads' HO0_1.out).2.1 (Kd.V_F (Kd.V_mono (Vb HO0_1.out) (fun k_ hk => ⟨hk.1.1.1, ⟨hk.1.2, ⟨hk.2, hk.1.1.2⟩⟩⟩))))) (Reps.none _ _))); intro v156 w58 ho59 hb hg_ hnew_; clear hg_ hnew_; (first | rw [← Ny155.out] at ho59 | (simp only [Int.reduceToNat] at ho59; rw [← Ny155.out] at ho59)); have n0_ := Aside0.mk (Kd.V_elder' (Vb HO0_1.out) (Kd.N_base ho59) hb); have n1_ := Aside0.mk (Kd.V_elder' (Vb HO4.out) (Kd.N_base ho59) hb); have n2_ := Aside0.mk (Kd.N_elder' (Nb HO150.out) (Kd.N_base ho59) hb); have n3_ := Aside0.mk (Kd.N_elder' (Nb HO153.out) (Kd.N_base ho59) hb); have n4_ := Aside0.mk (Kd.N_lower ho59 (below_size (Hb HB.out))); have n5_ := Aside0.mk (blk_below (Bb BK147.out) hb); have n6_ := Aside0.mk (below_step (Hb HB.out) hb); clear HO0_1; clear HO4; clear HO150; clear HO153; clear BK147; clear HB; have HO0_1 := n0_; have HO4 := n1_; have HO150 := n2_; have HO153 := n3_; have HO157 := n4_; have BK147 := n5_; have HB := n6_; clear n0_ n1_ n2_ n3_ n4_ n5_ n6_; clear hb ho59; obtain ⟨Ao60, co60, eo60⟩ := Kd.N_slice HO157.out; subst eo60) | (go_at_call 11; (with_reducible refine (scrivenerref07_MayFrags.calls k a1 _ _ y155 true _ ?side1 ?side2 A46.out).mono ?_); (case side1 => exact Cb (Kd.N_reads' HO157.out).2.2); (case side2 => exact (Kd.N_reads' HO157.out).2.1); rintro e w61 ⟨rfl, hb⟩; have n0_ := Aside0.mk (Kd.V_below (Vb HO0_1.out) hb); have n1_ := Aside0.mk (Kd.V_below (Vb HO4.out) hb); have n2_ := Aside0.mk (Kd.N_below (Nb HO150.out) hb); have n3_ := Aside0.mk (Kd.N_below (Nb HO153.out) hb); have n4_ := Aside0.mk (Kd.N_below (Nb HO157.out) hb); have n5_ := Aside0.mk (blk_below (Bb BK147.out) hb); have n6_ := Aside0.mk (below_step (Hb HB.out) hb); clear HO0_1; clear HO4; clear HO150; clear HO153; clear HO157; clear BK147; clear HB; have HO0_1 := n0_; have HO4 := n1_; have HO150 := n2_; have HO153 := n3_; have HO157 := n4_; have BK147 := n5_; have HB := n6_; clear n0_ n1_ n2_ n3_ n4_ n5_ n6_; (try clear hb); (try clear hb2); (try clear hk); (try clear hi); have hcz62_0 : w61.cell? ⟨gb147, 0, none⟩ = some (.int .u64 a0_0) := (blk_cell BK147.out 0).trans rfl; have hcz62_1 : w61.cell? ⟨gb147, 1, none⟩ = some (.slice A0_1 l0_1.length c0_1) := (blk_cell BK147.out 1).trans rfl; have hfz62_0 := blk_frozen BK147.out 0; have hfz62_1 := blk_frozen BK147.out 1))
                go_meet
                case rel => exact ⟨_, (true), (by first | rfl | (simp; done) | (simp [*]; done)), H', ⟨by first | omega | exact Nat.le_refl _⟩, ⟨by (with_reducible repeat (first | apply Kd.V_alloc | apply Kd.V_drewN | apply Kd.V_drew)); exact Kd.V_mono HO4.out (fun _ hk => ⟨hk.1.1.1.1, hk.1.1.1.2⟩)⟩, ⟨by (with_reducible repeat (first | apply Kd.V_alloc | apply Kd.V_drewN | apply Kd.V_drew)); exact Kd.V_mono HO0_1.out (fun _ hk => ⟨hk.1.1.1.1, hk.1.1.1.2⟩)⟩, ⟨by (with_reducible repeat (first | refine blk_drewN ?_ _ | refine blk_drew ?_ | refine blk_alloc ?_ _)); exact BK147.out⟩, ⟨by repeat (first | (with_reducible first | exact HB.out | apply below_alloc | apply pw_below_drewN | apply below_drew1 | refine below_set ?_ GE147.out) | exact HB.out)⟩⟩
              · rw [if_neg c48] at H
                have c48b0 : decide (a3 < a0_0) = false := decide_eq_false c48
                clear c48
                have H' := Aside0.mk H
                clear H
                have hcz63_0 : w8.cell? ⟨gb147, 0, none⟩ = some (.int .u64 a0_0) := (blk_cell BK147.out 0).trans rfl
                have hcz63_1 : w8.cell? ⟨gb147, 1, none⟩ = some (.slice A0_1 l0_1.length c0_1) := (blk_cell BK147.out 1).trans rfl
                have hfz63_0 := blk_frozen BK147.out 0
                have hfz63_1 := blk_frozen BK147.out 1
                go_wp2_with (first | ((with_reducible refine gate_dst (N := 20) rfl ?_); (try (refine gate_guard (by rfl) ?_; dsimp only)); refine Kd.N_lit k25 _ 25 ?hg (N' := 20) ?hd (xs := ([(⟨a0_0, l0_1⟩ : S25)] : List (S25))) (inner := [.int .u64 a0_0, .slice A0_1 l0_1.length c0_1]) (ok := (fun k_ => ((P0_1_ k_ ∨ P4_ k_) ∨ w.heap.size ≤ k_) ∧ k_ ≠ gb147)) (okp := (fun k_ => ((P0_1_ k_ ∨ P4_ k_) ∨ w.heap.size ≤ k_) ∧ k_ ≠ gb147)) ?hr ?hp (fun _ hk => hk) ((show ∀ k_, w8.heap.size ≤ k_ → (fun k_ => ((P0_1_ k_ ∨ P4_ k_) ∨ w.heap.size ≤ k_) ∧ k_ ≠ gb147) k_ from fun k_ hk => ⟨(.inr (Nat.le_trans (below_size (Hb HB.out)) hk)), Kd.freshB (Bb BK147.out) k_ hk⟩) _ (Nat.le_refl _)) (Below.refl _ _) (Nat.le_refl _) (by simp) ?_; (case hd => rfl); (case hg => rfl); (case hr => first | (go_simp; done) | (go_simp; rfl)); (case hp => exact (Reps.c2 (show Kd.FK k25 _ _ (⟨a0_0, l0_1⟩ : S25) [.int .u64 a0_0, .slice A0_1 l0_1.length c0_1] from (k25_mkF _ _ (⟨a0_0, l0_1⟩ : S25) (Kd.V_reads' HO0_1.out).2.1 (Kd.V_F (Kd.V_mono (Vb HO0_1.out) (fun k_ hk => ⟨hk.1, hk.2⟩))))) (Reps.none _ _))); intro v149 w64 ho65 hb hg_ hnew_; clear hg_ hnew_; (first | rw [← Ny148.out] at ho65 | (simp only [Int.reduceToNat] at ho65; rw [← Ny148.out] at ho65)); have n0_ := Aside0.mk (Kd.V_elder' (Vb HO0_1.out) (Kd.N_base ho65) hb); have n1_ := Aside0.mk (Kd.V_elder' (Vb HO4.out) (Kd.N_base ho65) hb); have n2_ := Aside0.mk (Kd.N_lower ho65 (below_size (Hb HB.out))); have n3_ := Aside0.mk (blk_below (Bb BK147.out) hb); have n4_ := Aside0.mk (below_step (Hb HB.out) hb); clear HO0_1; clear HO4; clear BK147; clear HB; have HO0_1 := n0_; have HO4 := n1_; have HO150 := n2_; have BK147 := n3_; have HB := n4_; clear n0_ n1_ n2_ n3_ n4_; clear hb ho65) | ((with_reducible refine gate_dst (N := 23) rfl ?_); (try (refine gate_guard (by rfl) ?_; dsimp only)); refine Kd.N_lit (Kd.slice 32 k32) _ 23 ?hg (N' := 23) ?hd (xs := ([l4] : List (List (S32)))) (inner := [.slice A4 l4.length c4]) (ok := (fun k_ => ((P0_1_ k_ ∨ P4_ k_) ∨ w.heap.size ≤ k_) ∧ some k_ ≠ (v149 : Value).ownBlock ∧ k_ ≠ gb147)) (okp := (fun k_ => ((P0_1_ k_ ∨ P4_ k_) ∨ w.heap.size ≤ k_) ∧ some k_ ≠ (v149 : Value).ownBlock ∧ k_ ≠ gb147)) ?hr ?hp (fun _ hk => hk) ((show ∀ k_, w64.heap.size ≤ k_ → (fun k_ => ((P0_1_ k_ ∨ P4_ k_) ∨ w.heap.size ≤ k_) ∧ some k_ ≠ (v149 : Value).ownBlock ∧ k_ ≠ gb147) k_ from fun k_ hk => ⟨(.inr (Nat.le_trans (below_size (Hb HB.out)) hk)), Kd.fresh' (Kd.N_lt (Nb HO150.out)) k_ hk, Kd.freshB (Bb BK147.out) k_ hk⟩) _ (Nat.le_refl _)) (Below.refl _ _) (Nat.le_refl _) (by simp) ?_; (case hd => rfl); (case hg => rfl); (case hr => first | (go_simp; done) | (go_simp; rfl)); (case hp => exact (Reps.one (show Kd.FK (Kd.slice 32 k32) _ _ l4 [.slice A4 l4.length c4] from (Kd.FK_slice_mk (Kd.V_reads' HO4.out).2.1 (Kd.V_F (Kd.V_mono (Vb HO4.out) (fun k_ hk => ⟨hk.1.1, ⟨hk.2, hk.1.2⟩⟩))))) (Reps.none _ _))); intro v152 w66 ho67 hb hg_ hnew_; clear hg_ hnew_; (first | rw [← Ny151.out] at ho67 | (simp only [Int.reduceToNat] at ho67; rw [← Ny151.out] at ho67)); have n0_ := Aside0.mk (Kd.V_elder' (Vb HO0_1.out) (Kd.N_base ho67) hb); have n1_ := Aside0.mk (Kd.V_elder' (Vb HO4.out) (Kd.N_base ho67) hb); have n2_ := Aside0.mk (Kd.N_elder' (Nb HO150.out) (Kd.N_base ho67) hb); have n3_ := Aside0.mk (Kd.N_lower ho67 (below_size (Hb HB.out))); have n4_ := Aside0.mk (blk_below (Bb BK147.out) hb); have n5_ := Aside0.mk (below_step (Hb HB.out) hb); clear HO0_1; clear HO4; clear HO150; clear BK147; clear HB; have HO0_1 := n0_; have HO4 := n1_; have HO150 := n2_; have HO153 := n3_; have BK147 := n4_; have HB := n5_; clear n0_ n1_ n2_ n3_ n4_ n5_; clear hb ho67; obtain ⟨Ao68, co68, eo68⟩ := Kd.N_slice HO150.out; subst eo68; obtain ⟨Ao69, co69, eo69⟩ := Kd.N_slice HO153.out; subst eo69) | ((with_reducible refine gate_callee (f := 10) rfl ?_); refine goesL_ (some 24) rfl rfl Try.func10 (by kernel_rfl) rfl #[.slice Ao68 y148.length co68, .int .i64 a1, .slice Ao69 y151.length co69] rfl (by (try simp only [List.map_toArray, List.map_cons, List.map_nil]); first | done | rfl | (simp only [List.length_drop, List.length_take]; rfl)) ?_; (with_reducible refine (scrivenerlaw14_long.calls k _ _ y148 a1 _ _ y151 false _ ?side1 ?side2 ?side3 ?side4 A9.out).mono ?_); (case side1 => exact Cb (Kd.N_reads' HO150.out).2.2); (case side2 => exact (Kd.N_reads' HO150.out).2.1); (case side3 => exact Cb (Kd.N_reads' HO153.out).2.2); (case side4 => exact (Kd.N_reads' HO153.out).2.1); rintro e w70 ⟨rfl, hb⟩; refine ⟨_, rfl, ?_⟩; have n0_ := Aside0.mk (Kd.V_below (Vb HO0_1.out) hb); have n1_ := Aside0.mk (Kd.V_below (Vb HO4.out) hb); have n2_ := Aside0.mk (Kd.N_below (Nb HO150.out) hb); have n3_ := Aside0.mk (Kd.N_below (Nb HO153.out) hb); have n4_ := Aside0.mk (blk_below (Bb BK147.out) hb); have n5_ := Aside0.mk (below_step (Hb HB.out) hb); clear HO0_1; clear HO4; clear HO150; clear HO153; clear BK147; clear HB; have HO0_1 := n0_; have HO4 := n1_; have HO150 := n2_; have HO153 := n3_; have BK147 := n4_; have HB := n5_; clear n0_ n1_ n2_ n3_ n4_ n5_; (try clear hb); (try clear hb2); (try clear hk); (try clear hi); have hcz71_0 : w70.cell? ⟨gb147, 0, none⟩ = some (.int .u64 a0_0) := (blk_cell BK147.out 0).trans rfl; have hcz71_1 : w70.cell? ⟨gb147, 1, none⟩ = some (.slice A0_1 l0_1.length c0_1) := (blk_cell BK147.out 1).trans rfl; have hfz71_0 := blk_frozen BK147.out 0; have hfz71_1 := blk_frozen BK147.out 1) | ((with_reducible refine gate_dst (N := 43) rfl ?_); (try (refine gate_guard (by rfl) ?_; dsimp only)); refine Kd.N_lit k25 _ 25 ?hg (N' := 43) ?hd (xs := ([(⟨1, l0_1⟩ : S25)] : List (S25))) (inner := [.int .u64 1, .slice A0_1 l0_1.length c0_1]) (ok := (fun k_ => ((P0_1_ k_ ∨ P4_ k_) ∨ w.heap.size ≤ k_) ∧ some k_ ≠ (.slice Ao68 y148.length co68 : Value).ownBlock ∧ some k_ ≠ (.slice Ao69 y151.length co69 : Value).ownBlock ∧ k_ ≠ gb147)) (okp := (fun k_ => ((P0_1_ k_ ∨ P4_ k_) ∨ w.heap.size ≤ k_) ∧ some k_ ≠ (.slice Ao68 y148.length co68 : Value).ownBlock ∧ some k_ ≠ (.slice Ao69 y151.length co69 : Value).ownBlock ∧ k_ ≠ gb147)) ?hr ?hp (fun _ hk => hk) ((show ∀ k_, w70.heap.size ≤ k_ → (fun k_ => ((P0_1_ k_ ∨ P4_ k_) ∨ w.heap.size ≤ k_) ∧ some k_ ≠ (.slice Ao68 y148.length co68 : Value).ownBlock ∧ some k_ ≠ (.slice Ao69 y151.length co69 : Value).ownBlock ∧ k_ ≠ gb147) k_ from fun k_ hk => ⟨(.inr (Nat.le_trans (below_size (Hb HB.out)) hk)), Kd.fresh' (Kd.N_lt (Nb HO150.out)) k_ hk, Kd.fresh' (Kd.N_lt (Nb HO153.out)) k_ hk, Kd.freshB (Bb BK147.out) k_ hk⟩) _ (Nat.le_refl _)) (Below.refl _ _) (Nat.le_refl _) (by simp) ?_; (case hd => rfl); (case hg => rfl); (case hr => first | (go_simp; done) | (go_simp; rfl)); (case hp => exact (Reps.c2 (show Kd.FK k25 _ _ (⟨1, l0_1⟩ : S25) [.int .u64 1, .slice A0_1 l0_1.length c0_1] from (k25_mkF _ _ (⟨1, l0_1⟩ : S25) (Kd.V_reads' HO0_1.out).2.1 (Kd.V_F (Kd.V_mono (Vb HO0_1.out) (fun k_ hk => ⟨hk.1.1.1, ⟨hk.1.2, ⟨hk.2, hk.1.1.2⟩⟩⟩))))) (Reps.none _ _))); intro v156 w72 ho73 hb hg_ hnew_; clear hg_ hnew_; (first | rw [← Ny155.out] at ho73 | (simp only [Int.reduceToNat] at ho73; rw [← Ny155.out] at ho73)); have n0_ := Aside0.mk (Kd.V_elder' (Vb HO0_1.out) (Kd.N_base ho73) hb); have n1_ := Aside0.mk (Kd.V_elder' (Vb HO4.out) (Kd.N_base ho73) hb); have n2_ := Aside0.mk (Kd.N_elder' (Nb HO150.out) (Kd.N_base ho73) hb); have n3_ := Aside0.mk (Kd.N_elder' (Nb HO153.out) (Kd.N_base ho73) hb); have n4_ := Aside0.mk (Kd.N_lower ho73 (below_size (Hb HB.out))); have n5_ := Aside0.mk (blk_below (Bb BK147.out) hb); have n6_ := Aside0.mk (below_step (Hb HB.out) hb); clear HO0_1; clear HO4; clear HO150; clear HO153; clear BK147; clear HB; have HO0_1 := n0_; have HO4 := n1_; have HO150 := n2_; have HO153 := n3_; have HO157 := n4_; have BK147 := n5_; have HB := n6_; clear n0_ n1_ n2_ n3_ n4_ n5_ n6_; clear hb ho73; obtain ⟨Ao74, co74, eo74⟩ := Kd.N_slice HO157.out; subst eo74) | (go_at_call 11; (with_reducible refine (scrivenerref07_MayFrags.calls k a1 _ _ y155 true _ ?side1 ?side2 A46.out).mono ?_); (case side1 => exact Cb (Kd.N_reads' HO157.out).2.2); (case side2 => exact (Kd.N_reads' HO157.out).2.1); rintro e w75 ⟨rfl, hb⟩; have n0_ := Aside0.mk (Kd.V_below (Vb HO0_1.out) hb); have n1_ := Aside0.mk (Kd.V_below (Vb HO4.out) hb); have n2_ := Aside0.mk (Kd.N_below (Nb HO150.out) hb); have n3_ := Aside0.mk (Kd.N_below (Nb HO153.out) hb); have n4_ := Aside0.mk (Kd.N_below (Nb HO157.out) hb); have n5_ := Aside0.mk (blk_below (Bb BK147.out) hb); have n6_ := Aside0.mk (below_step (Hb HB.out) hb); clear HO0_1; clear HO4; clear HO150; clear HO153; clear HO157; clear BK147; clear HB; have HO0_1 := n0_; have HO4 := n1_; have HO150 := n2_; have HO153 := n3_; have HO157 := n4_; have BK147 := n5_; have HB := n6_; clear n0_ n1_ n2_ n3_ n4_ n5_ n6_; (try clear hb); (try clear hb2); (try clear hk); (try clear hi); have hcz76_0 : w75.cell? ⟨gb147, 0, none⟩ = some (.int .u64 a0_0) := (blk_cell BK147.out 0).trans rfl; have hcz76_1 : w75.cell? ⟨gb147, 1, none⟩ = some (.slice A0_1 l0_1.length c0_1) := (blk_cell BK147.out 1).trans rfl; have hfz76_0 := blk_frozen BK147.out 0; have hfz76_1 := blk_frozen BK147.out 1))
                go_meet
                case rel => exact ⟨_, (decide (a0_0 > 1152921504606846976)), (by first | rfl | (simp; done) | (simp [*]; done)), H', ⟨by first | omega | exact Nat.le_refl _⟩, ⟨by (with_reducible repeat (first | apply Kd.V_alloc | apply Kd.V_drewN | apply Kd.V_drew)); exact Kd.V_mono HO4.out (fun _ hk => ⟨hk.1.1.1.1, hk.1.1.1.2⟩)⟩, ⟨by (with_reducible repeat (first | apply Kd.V_alloc | apply Kd.V_drewN | apply Kd.V_drew)); exact Kd.V_mono HO0_1.out (fun _ hk => ⟨hk.1.1.1.1, hk.1.1.1.2⟩)⟩, ⟨by (with_reducible repeat (first | refine blk_drewN ?_ _ | refine blk_drew ?_ | refine blk_alloc ?_ _)); exact BK147.out⟩, ⟨by repeat (first | (with_reducible first | exact HB.out | apply below_alloc | apply pw_below_drewN | apply below_drew1 | refine below_set ?_ GE147.out) | exact HB.out)⟩⟩
            · replace c47 := Bool.eq_false_iff.mpr c47
              subst c47
              rw [if_neg (show ¬ (false = true) by decide)] at H
              have H' := Aside0.mk H
              clear H
              have hcz77_0 : w8.cell? ⟨gb147, 0, none⟩ = some (.int .u64 a0_0) := (blk_cell BK147.out 0).trans rfl
              have hcz77_1 : w8.cell? ⟨gb147, 1, none⟩ = some (.slice A0_1 l0_1.length c0_1) := (blk_cell BK147.out 1).trans rfl
              have hfz77_0 := blk_frozen BK147.out 0
              have hfz77_1 := blk_frozen BK147.out 1
              go_wp2_with (first | ((with_reducible refine gate_dst (N := 20) rfl ?_); (try (refine gate_guard (by rfl) ?_; dsimp only)); refine Kd.N_lit k25 _ 25 ?hg (N' := 20) ?hd (xs := ([(⟨a0_0, l0_1⟩ : S25)] : List (S25))) (inner := [.int .u64 a0_0, .slice A0_1 l0_1.length c0_1]) (ok := (fun k_ => ((P0_1_ k_ ∨ P4_ k_) ∨ w.heap.size ≤ k_) ∧ k_ ≠ gb147)) (okp := (fun k_ => ((P0_1_ k_ ∨ P4_ k_) ∨ w.heap.size ≤ k_) ∧ k_ ≠ gb147)) ?hr ?hp (fun _ hk => hk) ((show ∀ k_, w8.heap.size ≤ k_ → (fun k_ => ((P0_1_ k_ ∨ P4_ k_) ∨ w.heap.size ≤ k_) ∧ k_ ≠ gb147) k_ from fun k_ hk => ⟨(.inr (Nat.le_trans (below_size (Hb HB.out)) hk)), Kd.freshB (Bb BK147.out) k_ hk⟩) _ (Nat.le_refl _)) (Below.refl _ _) (Nat.le_refl _) (by simp) ?_; (case hd => rfl); (case hg => rfl); (case hr => first | (go_simp; done) | (go_simp; rfl)); (case hp => exact (Reps.c2 (show Kd.FK k25 _ _ (⟨a0_0, l0_1⟩ : S25) [.int .u64 a0_0, .slice A0_1 l0_1.length c0_1] from (k25_mkF _ _ (⟨a0_0, l0_1⟩ : S25) (Kd.V_reads' HO0_1.out).2.1 (Kd.V_F (Kd.V_mono (Vb HO0_1.out) (fun k_ hk => ⟨hk.1, hk.2⟩))))) (Reps.none _ _))); intro v149 w78 ho79 hb hg_ hnew_; clear hg_ hnew_; (first | rw [← Ny148.out] at ho79 | (simp only [Int.reduceToNat] at ho79; rw [← Ny148.out] at ho79)); have n0_ := Aside0.mk (Kd.V_elder' (Vb HO0_1.out) (Kd.N_base ho79) hb); have n1_ := Aside0.mk (Kd.V_elder' (Vb HO4.out) (Kd.N_base ho79) hb); have n2_ := Aside0.mk (Kd.N_lower ho79 (below_size (Hb HB.out))); have n3_ := Aside0.mk (blk_below (Bb BK147.out) hb); have n4_ := Aside0.mk (below_step (Hb HB.out) hb); clear HO0_1; clear HO4; clear BK147; clear HB; have HO0_1 := n0_; have HO4 := n1_; have HO150 := n2_; have BK147 := n3_; have HB := n4_; clear n0_ n1_ n2_ n3_ n4_; clear hb ho79) | ((with_reducible refine gate_dst (N := 23) rfl ?_); (try (refine gate_guard (by rfl) ?_; dsimp only)); refine Kd.N_lit (Kd.slice 32 k32) _ 23 ?hg (N' := 23) ?hd (xs := ([l4] : List (List (S32)))) (inner := [.slice A4 l4.length c4]) (ok := (fun k_ => ((P0_1_ k_ ∨ P4_ k_) ∨ w.heap.size ≤ k_) ∧ some k_ ≠ (v149 : Value).ownBlock ∧ k_ ≠ gb147)) (okp := (fun k_ => ((P0_1_ k_ ∨ P4_ k_) ∨ w.heap.size ≤ k_) ∧ some k_ ≠ (v149 : Value).ownBlock ∧ k_ ≠ gb147)) ?hr ?hp (fun _ hk => hk) ((show ∀ k_, w78.heap.size ≤ k_ → (fun k_ => ((P0_1_ k_ ∨ P4_ k_) ∨ w.heap.size ≤ k_) ∧ some k_ ≠ (v149 : Value).ownBlock ∧ k_ ≠ gb147) k_ from fun k_ hk => ⟨(.inr (Nat.le_trans (below_size (Hb HB.out)) hk)), Kd.fresh' (Kd.N_lt (Nb HO150.out)) k_ hk, Kd.freshB (Bb BK147.out) k_ hk⟩) _ (Nat.le_refl _)) (Below.refl _ _) (Nat.le_refl _) (by simp) ?_; (case hd => rfl); (case hg => rfl); (case hr => first | (go_simp; done) | (go_simp; rfl)); (case hp => exact (Reps.one (show Kd.FK (Kd.slice 32 k32) _ _ l4 [.slice A4 l4.length c4] from (Kd.FK_slice_mk (Kd.V_reads' HO4.out).2.1 (Kd.V_F (Kd.V_mono (Vb HO4.out) (fun k_ hk => ⟨hk.1.1, ⟨hk.2, hk.1.2⟩⟩))))) (Reps.none _ _))); intro v152 w80 ho81 hb hg_ hnew_; clear hg_ hnew_; (first | rw [← Ny151.out] at ho81 | (simp only [Int.reduceToNat] at ho81; rw [← Ny151.out] at ho81)); have n0_ := Aside0.mk (Kd.V_elder' (Vb HO0_1.out) (Kd.N_base ho81) hb); have n1_ := Aside0.mk (Kd.V_elder' (Vb HO4.out) (Kd.N_base ho81) hb); have n2_ := Aside0.mk (Kd.N_elder' (Nb HO150.out) (Kd.N_base ho81) hb); have n3_ := Aside0.mk (Kd.N_lower ho81 (below_size (Hb HB.out))); have n4_ := Aside0.mk (blk_below (Bb BK147.out) hb); have n5_ := Aside0.mk (below_step (Hb HB.out) hb); clear HO0_1; clear HO4; clear HO150; clear BK147; clear HB; have HO0_1 := n0_; have HO4 := n1_; have HO150 := n2_; have HO153 := n3_; have BK147 := n4_; have HB := n5_; clear n0_ n1_ n2_ n3_ n4_ n5_; clear hb ho81; obtain ⟨Ao82, co82, eo82⟩ := Kd.N_slice HO150.out; subst eo82; obtain ⟨Ao83, co83, eo83⟩ := Kd.N_slice HO153.out; subst eo83) | ((with_reducible refine gate_callee (f := 10) rfl ?_); refine goesL_ (some 24) rfl rfl Try.func10 (by kernel_rfl) rfl #[.slice Ao82 y148.length co82, .int .i64 a1, .slice Ao83 y151.length co83] rfl (by (try simp only [List.map_toArray, List.map_cons, List.map_nil]); first | done | rfl | (simp only [List.length_drop, List.length_take]; rfl)) ?_; (with_reducible refine (scrivenerlaw14_long.calls k _ _ y148 a1 _ _ y151 false _ ?side1 ?side2 ?side3 ?side4 A9.out).mono ?_); (case side1 => exact Cb (Kd.N_reads' HO150.out).2.2); (case side2 => exact (Kd.N_reads' HO150.out).2.1); (case side3 => exact Cb (Kd.N_reads' HO153.out).2.2); (case side4 => exact (Kd.N_reads' HO153.out).2.1); rintro e w84 ⟨rfl, hb⟩; refine ⟨_, rfl, ?_⟩; have n0_ := Aside0.mk (Kd.V_below (Vb HO0_1.out) hb); have n1_ := Aside0.mk (Kd.V_below (Vb HO4.out) hb); have n2_ := Aside0.mk (Kd.N_below (Nb HO150.out) hb); have n3_ := Aside0.mk (Kd.N_below (Nb HO153.out) hb); have n4_ := Aside0.mk (blk_below (Bb BK147.out) hb); have n5_ := Aside0.mk (below_step (Hb HB.out) hb); clear HO0_1; clear HO4; clear HO150; clear HO153; clear BK147; clear HB; have HO0_1 := n0_; have HO4 := n1_; have HO150 := n2_; have HO153 := n3_; have BK147 := n4_; have HB := n5_; clear n0_ n1_ n2_ n3_ n4_ n5_; (try clear hb); (try clear hb2); (try clear hk); (try clear hi); have hcz85_0 : w84.cell? ⟨gb147, 0, none⟩ = some (.int .u64 a0_0) := (blk_cell BK147.out 0).trans rfl; have hcz85_1 : w84.cell? ⟨gb147, 1, none⟩ = some (.slice A0_1 l0_1.length c0_1) := (blk_cell BK147.out 1).trans rfl; have hfz85_0 := blk_frozen BK147.out 0; have hfz85_1 := blk_frozen BK147.out 1) | ((with_reducible refine gate_dst (N := 43) rfl ?_); (try (refine gate_guard (by rfl) ?_; dsimp only)); refine Kd.N_lit k25 _ 25 ?hg (N' := 43) ?hd (xs := ([(⟨1, l0_1⟩ : S25)] : List (S25))) (inner := [.int .u64 1, .slice A0_1 l0_1.length c0_1]) (ok := (fun k_ => ((P0_1_ k_ ∨ P4_ k_) ∨ w.heap.size ≤ k_) ∧ some k_ ≠ (.slice Ao82 y148.length co82 : Value).ownBlock ∧ some k_ ≠ (.slice Ao83 y151.length co83 : Value).ownBlock ∧ k_ ≠ gb147)) (okp := (fun k_ => ((P0_1_ k_ ∨ P4_ k_) ∨ w.heap.size ≤ k_) ∧ some k_ ≠ (.slice Ao82 y148.length co82 : Value).ownBlock ∧ some k_ ≠ (.slice Ao83 y151.length co83 : Value).ownBlock ∧ k_ ≠ gb147)) ?hr ?hp (fun _ hk => hk) ((show ∀ k_, w84.heap.size ≤ k_ → (fun k_ => ((P0_1_ k_ ∨ P4_ k_) ∨ w.heap.size ≤ k_) ∧ some k_ ≠ (.slice Ao82 y148.length co82 : Value).ownBlock ∧ some k_ ≠ (.slice Ao83 y151.length co83 : Value).ownBlock ∧ k_ ≠ gb147) k_ from fun k_ hk => ⟨(.inr (Nat.le_trans (below_size (Hb HB.out)) hk)), Kd.fresh' (Kd.N_lt (Nb HO150.out)) k_ hk, Kd.fresh' (Kd.N_lt (Nb HO153.out)) k_ hk, Kd.freshB (Bb BK147.out) k_ hk⟩) _ (Nat.le_refl _)) (Below.refl _ _) (Nat.le_refl _) (by simp) ?_; (case hd => rfl); (case hg => rfl); (case hr => first | (go_simp; done) | (go_simp; rfl)); (case hp => exact (Reps.c2 (show Kd.FK k25 _ _ (⟨1, l0_1⟩ : S25) [.int .u64 1, .slice A0_1 l0_1.length c0_1] from (k25_mkF _ _ (⟨1, l0_1⟩ : S25) (Kd.V_reads' HO0_1.out).2.1 (Kd.V_F (Kd.V_mono (Vb HO0_1.out) (fun k_ hk => ⟨hk.1.1.1, ⟨hk.1.2, ⟨hk.2, hk.1.1.2⟩⟩⟩))))) (Reps.none _ _))); intro v156 w86 ho87 hb hg_ hnew_; clear hg_ hnew_; (first | rw [← Ny155.out] at ho87 | (simp only [Int.reduceToNat] at ho87; rw [← Ny155.out] at ho87)); have n0_ := Aside0.mk (Kd.V_elder' (Vb HO0_1.out) (Kd.N_base ho87) hb); have n1_ := Aside0.mk (Kd.V_elder' (Vb HO4.out) (Kd.N_base ho87) hb); have n2_ := Aside0.mk (Kd.N_elder' (Nb HO150.out) (Kd.N_base ho87) hb); have n3_ := Aside0.mk (Kd.N_elder' (Nb HO153.out) (Kd.N_base ho87) hb); have n4_ := Aside0.mk (Kd.N_lower ho87 (below_size (Hb HB.out))); have n5_ := Aside0.mk (blk_below (Bb BK147.out) hb); have n6_ := Aside0.mk (below_step (Hb HB.out) hb); clear HO0_1; clear HO4; clear HO150; clear HO153; clear BK147; clear HB; have HO0_1 := n0_; have HO4 := n1_; have HO150 := n2_; have HO153 := n3_; have HO157 := n4_; have BK147 := n5_; have HB := n6_; clear n0_ n1_ n2_ n3_ n4_ n5_ n6_; clear hb ho87; obtain ⟨Ao88, co88, eo88⟩ := Kd.N_slice HO157.out; subst eo88) | (go_at_call 11; (with_reducible refine (scrivenerref07_MayFrags.calls k a1 _ _ y155 false _ ?side1 ?side2 A46.out).mono ?_); (case side1 => exact Cb (Kd.N_reads' HO157.out).2.2); (case side2 => exact (Kd.N_reads' HO157.out).2.1); rintro e w89 ⟨rfl, hb⟩; have n0_ := Aside0.mk (Kd.V_below (Vb HO0_1.out) hb); have n1_ := Aside0.mk (Kd.V_below (Vb HO4.out) hb); have n2_ := Aside0.mk (Kd.N_below (Nb HO150.out) hb); have n3_ := Aside0.mk (Kd.N_below (Nb HO153.out) hb); have n4_ := Aside0.mk (Kd.N_below (Nb HO157.out) hb); have n5_ := Aside0.mk (blk_below (Bb BK147.out) hb); have n6_ := Aside0.mk (below_step (Hb HB.out) hb); clear HO0_1; clear HO4; clear HO150; clear HO153; clear HO157; clear BK147; clear HB; have HO0_1 := n0_; have HO4 := n1_; have HO150 := n2_; have HO153 := n3_; have HO157 := n4_; have BK147 := n5_; have HB := n6_; clear n0_ n1_ n2_ n3_ n4_ n5_ n6_; (try clear hb); (try clear hb2); (try clear hk); (try clear hi)))
              go_meet
              case rel => exact ⟨_, (true), (by first | rfl | (simp; done) | (simp [*]; done)), H', ⟨by first | omega | exact Nat.le_refl _⟩, ⟨by (with_reducible repeat (first | apply Kd.V_alloc | apply Kd.V_drewN | apply Kd.V_drew)); exact Kd.V_mono HO4.out (fun _ hk => ⟨hk.1.1.1.1, hk.1.1.1.2⟩)⟩, ⟨by (with_reducible repeat (first | apply Kd.V_alloc | apply Kd.V_drewN | apply Kd.V_drew)); exact Kd.V_mono HO0_1.out (fun _ hk => ⟨hk.1.1.1.1, hk.1.1.1.2⟩)⟩, ⟨by (with_reducible repeat (first | refine blk_drewN ?_ _ | refine blk_drew ?_ | refine blk_alloc ?_ _)); exact BK147.out⟩, ⟨by repeat (first | (with_reducible first | exact HB.out | apply below_alloc | apply pw_below_drewN | apply below_drew1 | refine below_set ?_ GE147.out) | exact HB.out)⟩⟩
  case rest =>
    clear HC7
    try clear c1
    try clear c2
    try clear p2
    try clear c3
    try clear c4
    try clear c10
    try clear c19
    try clear c19b0
    try clear c28
    try clear c28b0
    try clear c37
    try clear c37b0
    try clear c47
    try clear c48
    try clear c48b0
    try clear hcz11_0
    try clear hcz11_1
    try clear hcz20_0
    try clear hcz20_1
    try clear hcz29_0
    try clear hcz29_1
    try clear hcz38_0
    try clear hcz38_1
    try clear hcz49_0
    try clear hcz49_1
    try clear hcz57_0
    try clear hcz57_1
    try clear hcz62_0
    try clear hcz62_1
    try clear hcz63_0
    try clear hcz63_1
    try clear hcz71_0
    try clear hcz71_1
    try clear hcz76_0
    try clear hcz76_1
    try clear hcz77_0
    try clear hcz77_1
    try clear hcz85_0
    try clear hcz85_1
    try clear hfz11_0
    try clear hfz11_1
    try clear hfz20_0
    try clear hfz20_1
    try clear hfz29_0
    try clear hfz29_1
    try clear hfz38_0
    try clear hfz38_1
    try clear hfz49_0
    try clear hfz49_1
    try clear hfz57_0
    try clear hfz57_1
    try clear hfz62_0
    try clear hfz62_1
    try clear hfz63_0
    try clear hfz63_1
    try clear hfz71_0
    try clear hfz71_1
    try clear hfz76_0
    try clear hfz76_1
    try clear hfz77_0
    try clear hfz77_1
    try clear hfz85_0
    try clear hfz85_1
    obtain ⟨kq, x57_6, rfl, HA, HJ6, HO_4, HO_148001, BK147, HB⟩ := hcut
    cases kq with
    | zero => exact absurd HA.out (by simp [scrivenerlaw14_StripeMeets.j0])
    | succ kj6 =>
      have H := HA.out
      clear HA
      simp only [scrivenerlaw14_StripeMeets.j0] at H
      by_cases c90 : x57_6 = true
      · subst c90
        rw [if_pos rfl] at H
        replace H := Option.bind_eq_some_iff.mp H
        obtain ⟨t159, A910, H⟩ := H
        replace H : (some t159) = some r := H
        have A91 := Aside0.mk A910
        clear A910
        obtain rfl := Option.some.inj H
        go_wp2_with (first | ((with_reducible refine gate_callee (f := 12) rfl ?_); refine goesL_ (some 58) rfl rfl Try.func12 (by kernel_rfl) rfl #[] rfl (by (try simp only [List.map_toArray, List.map_cons, List.map_nil]); first | done | rfl | (simp only [List.length_drop, List.length_take]; rfl)) ?_; (with_reducible refine (scrivenerlaw14_awake.calls  t159 _ A91.out).mono ?_); rintro e w92 ⟨rfl, hb⟩; refine ⟨_, rfl, ?_⟩; have n0_ := Aside0.mk (Kd.V_below (Vb HO_4.out) hb); have n1_ := Aside0.mk (Kd.V_below (Vb HO_148001.out) hb); have n2_ := Aside0.mk (blk_below (Bb BK147.out) hb); have n3_ := Aside0.mk (below_step (Hb HB.out) hb); clear HO_4; clear HO_148001; clear BK147; clear HB; have HO_4 := n0_; have HO_148001 := n1_; have BK147 := n2_; have HB := n3_; clear n0_ n1_ n2_ n3_; (try clear hb); (try clear hb2); (try clear hk); (try clear hi)))
        go_ret
        exact ⟨by first | rfl | (simp [errW_none, errW_some] <;> rfl) | (simp [*, errW_none, errW_some] <;> rfl), by repeat (first | (with_reducible first | exact HB.out | apply below_alloc | apply pw_below_drewN | apply below_drew1 | refine below_set ?_ GE147.out) | exact HB.out)⟩
      · replace c90 := Bool.eq_false_iff.mpr c90
        subst c90
        rw [if_neg (show ¬ (false = true) by decide)] at H
        obtain ⟨y160, hy160⟩ : ∃ y_ : List (S25), y_ = (([(⟨a0_0, l0_1⟩ : S25)] : List (S25))) := ⟨_, rfl⟩
        replace H : ((stripe_Set.f kj6 y160 a1 a3).bind fun t163 => (scrivenerlaw14_StripeMeets.l0 kj6 a1 a2 l4 a5 t163 ([] : List (S32)) false 0 a0_0 l0_1)) = some r := by first | (rw [hy160]; with_reducible exact H) | (have H2_ := (Option.bind_some _ _).symm.trans H; rw [hy160]; with_reducible exact H2_) | (have H2_ := (Option.bind_some _ _).symm.trans H; with_reducible exact H2_) | with_reducible exact H | (rw [hy160]; exact H) | exact H
        have Ny160 := Aside0.mk hy160
        clear hy160
        replace H := Option.bind_eq_some_iff.mp H
        obtain ⟨t163, A930, H⟩ := H
        replace H : (scrivenerlaw14_StripeMeets.l0 kj6 a1 a2 l4 a5 t163 ([] : List (S32)) false 0 a0_0 l0_1) = some r := H
        have A93 := Aside0.mk A930
        clear A930
        have H' := Aside0.mk H
        clear H
        have hcz94_0 : wc.cell? ⟨gb147, 0, none⟩ = some (.int .u64 a0_0) := (blk_cell BK147.out 0).trans rfl
        have hcz94_1 : wc.cell? ⟨gb147, 1, none⟩ = some (.slice A0_1 l0_1.length c0_1) := (blk_cell BK147.out 1).trans rfl
        have hfz94_0 := blk_frozen BK147.out 0
        have hfz94_1 := blk_frozen BK147.out 1
        go_wp2_with (first | ((with_reducible refine gate_dst (N := 60) rfl ?_); (try (refine gate_guard (by rfl) ?_; dsimp only)); refine Kd.N_lit k25 _ 25 ?hg (N' := 60) ?hd (xs := ([(⟨a0_0, l0_1⟩ : S25)] : List (S25))) (inner := [.int .u64 a0_0, .slice A0_1 l0_1.length c0_1]) (ok := (fun k_ => ((P0_1_ k_ ∨ P4_ k_) ∨ w.heap.size ≤ k_) ∧ k_ ≠ gb147)) (okp := (fun k_ => ((P0_1_ k_ ∨ P4_ k_) ∨ w.heap.size ≤ k_) ∧ k_ ≠ gb147)) ?hr ?hp (fun _ hk => hk) ((show ∀ k_, wc.heap.size ≤ k_ → (fun k_ => ((P0_1_ k_ ∨ P4_ k_) ∨ w.heap.size ≤ k_) ∧ k_ ≠ gb147) k_ from fun k_ hk => ⟨(.inr (Nat.le_trans (below_size (Hb HB.out)) hk)), Kd.freshB (Bb BK147.out) k_ hk⟩) _ (Nat.le_refl _)) (Below.refl _ _) (Nat.le_refl _) (by simp) ?_; (case hd => rfl); (case hg => rfl); (case hr => first | (go_simp; done) | (go_simp; rfl)); (case hp => exact (Reps.c2 (show Kd.FK k25 _ _ (⟨a0_0, l0_1⟩ : S25) [.int .u64 a0_0, .slice A0_1 l0_1.length c0_1] from (k25_mkF _ _ (⟨a0_0, l0_1⟩ : S25) (Kd.V_reads' HO_148001.out).2.1 (Kd.V_F (Kd.V_mono (Vb HO_148001.out) (fun k_ hk => ⟨hk.1, hk.2⟩))))) (Reps.none _ _))); intro v161 w95 ho96 hb hg_ hnew_; clear hg_ hnew_; (first | rw [← Ny160.out] at ho96 | (simp only [Int.reduceToNat] at ho96; rw [← Ny160.out] at ho96)); have n0_ := Aside0.mk (Kd.V_elder' (Vb HO_4.out) (Kd.N_base ho96) hb); have n1_ := Aside0.mk (Kd.V_elder' (Vb HO_148001.out) (Kd.N_base ho96) hb); have n2_ := Aside0.mk (Kd.N_lower ho96 (below_size (Hb HB.out))); have n3_ := Aside0.mk (blk_below (Bb BK147.out) hb); have n4_ := Aside0.mk (below_step (Hb HB.out) hb); clear HO_4; clear HO_148001; clear BK147; clear HB; have HO_4 := n0_; have HO_148001 := n1_; have HO162 := n2_; have BK147 := n3_; have HB := n4_; clear n0_ n1_ n2_ n3_ n4_; clear hb ho96; obtain ⟨Ao97, co97, eo97⟩ := Kd.N_slice HO162.out; subst eo97) | ((with_reducible refine gate_callee (f := 13) rfl ?_); refine goesL_ (some 63) rfl rfl Try.func13 (by kernel_rfl) rfl #[.slice Ao97 y160.length co97, .int .i64 a1, .int .u64 a3] rfl (by (try simp only [List.map_toArray, List.map_cons, List.map_nil]); first | done | rfl | (simp only [List.length_drop, List.length_take]; rfl)) ?_; (with_reducible refine (stripe_Set.calls kj6 _ _ y160 a1 a3 t163 _ ?side1 ?side2 A93.out).mono ?_); (case side1 => exact Cb (Kd.N_reads' HO162.out).2.2); (case side2 => exact (Kd.N_reads' HO162.out).2.1); rintro e w98 ⟨v164, rfl, ho0, hb⟩; refine ⟨_, rfl, ?_⟩; have n0_ := Aside0.mk (Kd.V_elder' (Vb HO_4.out) (Kd.R_base ho0) hb); have n1_ := Aside0.mk (Kd.V_elder' (Vb HO_148001.out) (Kd.R_base ho0) hb); have n2_ := Aside0.mk (Kd.N_elder' (Nb HO162.out) (Kd.R_base ho0) hb); have n3_ := Aside0.mk (Kd.R_lower (Kd.R_newM (M := fun k_ => (w.heap.size ≤ k_)) ho0 (below_size (Hb HB.out)) (fun k_ h_ => h_)) (below_size (Hb HB.out))); have n4_ := Aside0.mk (blk_below (Bb BK147.out) hb); have n5_ := Aside0.mk (below_step (Hb HB.out) hb); clear HO_4; clear HO_148001; clear HO162; clear BK147; clear HB; have HO_4 := n0_; have HO_148001 := n1_; have HO162 := n2_; have HO165 := n3_; have BK147 := n4_; have HB := n5_; clear n0_ n1_ n2_ n3_ n4_ n5_; (try clear hb); (try clear hb2); (try clear hk); (try clear hi); (try clear ho0)))
        go_loopg [14, 15, 16] kj6 (fun kq v14 v15 v16 w' => ∃ (x14_2 : List (S32)) (x15_2 : Bool) (x16_2 : Int), v15 = .bool x15_2 ∧ v16 = .int .i64 x16_2 ∧ Aside0 (scrivenerlaw14_StripeMeets.l0 kq a1 a2 l4 a5 t163 x14_2 x15_2 x16_2 a0_0 l0_1 = some r) ∧ Aside0 (kq ≤ kj6) ∧ Aside0 (Kd.V k32 32 w' w.heap.size (fun k_ => ((P0_1_ k_ ∨ P4_ k_) ∨ w.heap.size ≤ k_) ∧ some k_ ≠ (v164 : Value).ownBlock ∧ some k_ ≠ (v14 : Value).ownBlock ∧ k_ ≠ gb147) (.slice A4 l4.length c4) l4) ∧ Aside0 (Kd.R k32 32 w' w.heap.size (fun k_ => (w.heap.size ≤ k_) ∧ some k_ ≠ (v14 : Value).ownBlock) v164 t163) ∧ Aside0 (Kd.R k32 32 w' w.heap.size (fun k_ => (w.heap.size ≤ k_) ∧ some k_ ≠ (v164 : Value).ownBlock) v14 x14_2) ∧ Aside0 (Kd.V k32 32 w' w.heap.size (fun k_ => ((P0_1_ k_ ∨ P4_ k_) ∨ w.heap.size ≤ k_) ∧ some k_ ≠ (v164 : Value).ownBlock ∧ some k_ ≠ (v14 : Value).ownBlock ∧ k_ ≠ gb147) (.slice A0_1 l0_1.length c0_1) l0_1) ∧ Aside0 (w'.heap[gb147]? = some (.cells #[.int .u64 a0_0, (.slice A0_1 l0_1.length c0_1)] 25 (0, 0))) ∧ Aside0 (Below w.heap.size w w'))
        case atStart => exact ⟨(([] : List (S32))), (false), (0), (by first | rfl | (simp; done) | (simp [*]; done)), (by first | rfl | (simp; done) | (simp [*]; done)), H', ⟨Nat.le_refl _⟩, ⟨by (with_reducible repeat (first | apply Kd.V_alloc | apply Kd.V_drewN | apply Kd.V_drew)); exact Kd.V_mono HO_4.out (fun _ hk => ⟨hk.1.1.1, ⟨hk.2, ⟨(by simp [Value.ownBlock]), hk.1.1.2⟩⟩⟩)⟩, ⟨by (with_reducible repeat (first | apply Kd.R_alloc | apply Kd.R_drewN | apply Kd.R_drew)); exact Kd.R_mono HO165.out (fun _ hk => ⟨hk.1, (by simp [Value.ownBlock])⟩)⟩, ⟨by first | exact Kd.R_nil _ _ _ _ _ | exact Kd.N_nil _ _ _ _ _ | exact Kd.V_nil _ _ _ _ _ | exact Kd.Q_nil _ _ _ _ _ | exact Kd.S_nil _ _ _ _ _⟩, ⟨by (with_reducible repeat (first | apply Kd.V_alloc | apply Kd.V_drewN | apply Kd.V_drew)); exact Kd.V_mono HO_148001.out (fun _ hk => ⟨hk.1.1.1, ⟨hk.2, ⟨(by simp [Value.ownBlock]), hk.1.1.2⟩⟩⟩)⟩, ⟨by (with_reducible repeat (first | refine blk_drewN ?_ _ | refine blk_drew ?_ | refine blk_alloc ?_ _)); exact BK147.out⟩, ⟨by repeat (first | (with_reducible first | exact HB.out | apply below_alloc | apply pw_below_drewN | apply below_drew1 | refine below_set ?_ GE147.out) | exact HB.out)⟩⟩
        case round =>
          clear H'
          try clear c1
          try clear c2
          try clear p2
          try clear c3
          try clear c4
          try clear c9
          try clear c10
          try clear c12
          try clear c13
          try clear c19
          try clear c19b0
          try clear c28
          try clear c28b0
          try clear c37
          try clear c37b0
          try clear c47
          try clear c48
          try clear c48b0
          try clear c90
          try clear hcz11_0
          try clear hcz11_1
          try clear hcz20_0
          try clear hcz20_1
          try clear hcz29_0
          try clear hcz29_1
          try clear hcz38_0
          try clear hcz38_1
          try clear hcz49_0
          try clear hcz49_1
          try clear hcz57_0
          try clear hcz57_1
          try clear hcz62_0
          try clear hcz62_1
          try clear hcz63_0
          try clear hcz63_1
          try clear hcz71_0
          try clear hcz71_1
          try clear hcz76_0
          try clear hcz76_1
          try clear hcz77_0
          try clear hcz77_1
          try clear hcz85_0
          try clear hcz85_1
          try clear hcz94_0
          try clear hcz94_1
          try clear hfz11_0
          try clear hfz11_1
          try clear hfz20_0
          try clear hfz20_1
          try clear hfz29_0
          try clear hfz29_1
          try clear hfz38_0
          try clear hfz38_1
          try clear hfz49_0
          try clear hfz49_1
          try clear hfz57_0
          try clear hfz57_1
          try clear hfz62_0
          try clear hfz62_1
          try clear hfz63_0
          try clear hfz63_1
          try clear hfz71_0
          try clear hfz71_1
          try clear hfz76_0
          try clear hfz76_1
          try clear hfz77_0
          try clear hfz77_1
          try clear hfz85_0
          try clear hfz85_1
          try clear hfz94_0
          try clear hfz94_1
          try clear p2
          obtain ⟨x14_2, x15_2, x16_2, rfl, rfl, HA, HK2, HO_4, HO_13, HO_14, HO_148001, BK147, HB⟩ := hrel
          cases gk with
          | zero => exact absurd HA.out (by simp [scrivenerlaw14_StripeMeets.l0])
          | succ k2 =>
            have H := HA.out
            clear HA
            simp only [scrivenerlaw14_StripeMeets.l0] at H
            by_cases c99 : x16_2 < (t163.length : Int)
            · rw [if_pos c99] at H
              have c99b0 : decide (x16_2 < (t163.length : Int)) = true := decide_eq_true c99
              clear c99
              by_cases c100 : 0 ≤ x16_2
              · rw [if_pos c100] at H
                have c100b0 := eq_true c100
                have c100b1 : decide (0 ≤ x16_2) = true := decide_eq_true c100
                clear c100
                obtain ⟨ji101, hji101⟩ : ∃ j_ : Int, (shr .i64 a5 x16_2) = j_ := ⟨_, rfl⟩
                replace H : (if (Go.bits .and .i64 (ji101) 1) = 1 then (if x14_2.length < 8796093022208 then ((some (x14_2 ++ [(⟨(rd_T32 t163 x16_2).f0, (rd_T32 t163 x16_2).f1⟩ : S32)] : List (S32))).bind fun y167 => (if x15_2 = true then (scrivenerlaw14_StripeMeets.l0 k2 a1 a2 l4 a5 t163 y167 true (wrap64 (x16_2 + 1)) a0_0 l0_1) else (if x16_2 ≤ (wrap64 (x16_2 + 1)) then (if (wrap64 (x16_2 + 1)) ≤ (t163.length : Int) then ((scrivenerref14_Among.f k2 ((t163.take ((wrap64 (x16_2 + 1)) : Int).toNat).drop (x16_2 : Int).toNat) l4).bind fun t175 => (scrivenerlaw14_StripeMeets.l0 k2 a1 a2 l4 a5 t163 y167 (t175 == 1) (wrap64 (x16_2 + 1)) a0_0 l0_1)) else (none)) else (none)))) else (none)) else (scrivenerlaw14_StripeMeets.l0 k2 a1 a2 l4 a5 t163 x14_2 x15_2 (wrap64 (x16_2 + 1)) a0_0 l0_1)) = some r := by first | (rw [hji101] at H; exact H) | (simp only [hji101] at H ⊢; exact H)
                have hji101_ : (a5 / 2 ^ min x16_2.toNat 64) = ji101 := hji101
                have hji101z : x16_2 ≤ 64 → (a5 / 2 ^ x16_2.toNat) = ji101 := shr_small hji101
                by_cases c102 : (Go.bits .and .i64 (ji101) 1) = 1
                · rw [if_pos c102] at H
                  have c102b0 : ((Go.bits .and .i64 (ji101) 1) == 1) = true := beq_iff_eq.mpr c102
                  have c102b1 : ((Go.bits .and .i64 (ji101) 1) != 1) = false := bne_eq_false_iff_eq.mpr c102
                  clear c102
                  by_cases c103 : x14_2.length < 8796093022208
                  · rw [if_pos c103] at H
                    have LMc103 := Aside0.mk c103
                    clear c103
                    obtain ⟨y167, hy167⟩ : ∃ y_ : List (S32), y_ = (x14_2 ++ [(⟨(rd_T32 t163 x16_2).f0, (rd_T32 t163 x16_2).f1⟩ : S32)]) := ⟨_, rfl⟩
                    replace H : (if x15_2 = true then (scrivenerlaw14_StripeMeets.l0 k2 a1 a2 l4 a5 t163 y167 true (wrap64 (x16_2 + 1)) a0_0 l0_1) else (if x16_2 ≤ (wrap64 (x16_2 + 1)) then (if (wrap64 (x16_2 + 1)) ≤ (t163.length : Int) then ((scrivenerref14_Among.f k2 ((t163.take ((wrap64 (x16_2 + 1)) : Int).toNat).drop (x16_2 : Int).toNat) l4).bind fun t175 => (scrivenerlaw14_StripeMeets.l0 k2 a1 a2 l4 a5 t163 y167 (t175 == 1) (wrap64 (x16_2 + 1)) a0_0 l0_1)) else (none)) else (none))) = some r := by first | (rw [hy167]; with_reducible exact H) | (have H2_ := (Option.bind_some _ _).symm.trans H; rw [hy167]; with_reducible exact H2_) | (have H2_ := (Option.bind_some _ _).symm.trans H; with_reducible exact H2_) | with_reducible exact H | (rw [hy167]; exact H) | exact H
                    have Ny167 := Aside0.mk hy167
                    clear hy167
                    by_cases c104 : x15_2 = true
                    · subst c104
                      rw [if_pos rfl] at H
                      have H' := Aside0.mk H
                      clear H
                      obtain ⟨Ao105, co105, eo105⟩ := Kd.R_slice HO_13.out
                      subst eo105
                      have p166 : 0 ≤ (x16_2 : Int) := of_decide_eq_true (by first | (with_reducible assumption) | assumption)
                      have q166 : x16_2 < (t163.length : Int) := of_decide_eq_true (by first | (with_reducible assumption) | assumption)
                      try (obtain ⟨Aoz_, coz_, eoz_⟩ := Kd.R_slice HO_13.out; subst eoz_)
                      obtain ⟨ad166, e166, hx166_0, hx166_1⟩ := at_T32 (Kd.R_reads' HO_13.out).2.2 x16_2 p166 q166
                      cases e166
                      replace p166 := eq_true p166
                      replace q166 := eq_true q166
                      go_wp2_with (first | ((with_reducible refine gate_builtin (b := .append) (xs := #[.tmp 75, .tmp 80]) rfl ?_); (try (refine gate_guard (by rfl) ?_; dsimp only)); at_builtin; refine Kd.R_append k32 (w0 := w) w.heap.size rfl (.tmp 75) (.tmp 80) 23 32 (.agg #[(.int .i64 0), (.int .u64 0)]) 16 rfl Try.underlying23 info32 rfl (by decide) (by omega) u14 x14_2 (⟨(rd_T32 t163 x16_2).f0, (rd_T32 t163 x16_2).f1⟩ : S32) [.int .i64 ((rd_T32 t163 x16_2).f0), .int .u64 ((rd_T32 t163 x16_2).f1)] (fun k_ => (w.heap.size ≤ k_) ∧ some k_ ≠ (.slice (some ad166) t163.length co105 : Value).ownBlock) (fun _ => False) rfl rfl ?aP (fun _ hk => hk.elim) ?aF ?aO ?aB ?aS ?aL ?_; (case aP => exact k32_mkM _ _ _ (⟨(rd_T32 t163 x16_2).f0, (rd_T32 t163 x16_2).f1⟩ : S32)); (case aB => exact (Hb HB.out)); (case aF => exact (fun k_ hk => ⟨(Nat.le_trans (below_size (Hb HB.out)) hk), Kd.fresh' (Kd.R_lt (Rb HO_13.out)) k_ hk⟩)); (case aO => exact (Rb HO_14.out)); (case aS => exact (below_size (Hb HB.out))); (case aL => have := LMc103.out; omega); intro v168 w106 ho hb hg hat; rw [← Ny167.out] at ho; have n0_ := Aside0.mk (Kd.V_afterv (ok := (fun k_ => ((P0_1_ k_ ∨ P4_ k_) ∨ w.heap.size ≤ k_) ∧ some k_ ≠ (.slice (some ad166) t163.length co105 : Value).ownBlock ∧ k_ ≠ gb147)) (by (with_reducible repeat (first | apply Kd.V_alloc | apply Kd.V_drewN | apply Kd.V_drew)); exact Kd.V_mono HO_4.out (fun _ hk => ⟨⟨hk.1, ⟨hk.2.1, hk.2.2.2⟩⟩, hk.2.2.1⟩)) hg hat); have n1_ := Aside0.mk (Kd.R_after (ok := (fun k_ => (w.heap.size ≤ k_))) (Rb HO_13.out) hg hat); have n2_ := Aside0.mk (Kd.V_afterv (ok := (fun k_ => ((P0_1_ k_ ∨ P4_ k_) ∨ w.heap.size ≤ k_) ∧ some k_ ≠ (.slice (some ad166) t163.length co105 : Value).ownBlock ∧ k_ ≠ gb147)) (by (with_reducible repeat (first | apply Kd.V_alloc | apply Kd.V_drewN | apply Kd.V_drew)); exact Kd.V_mono HO_148001.out (fun _ hk => ⟨⟨hk.1, ⟨hk.2.1, hk.2.2.2⟩⟩, hk.2.2.1⟩)) hg hat); have n3_ := Aside0.mk (blk_grown (g := gb147) (o := .cells #[.int .u64 a0_0, .slice A0_1 l0_1.length c0_1] 25 (0, 0)) (Bb BK147.out) hg (Kd.R_ne HO_14.out BK147.out (by decide))); have n4_ := Aside0.mk (hb); have n5_ := Aside0.mk (ho); clear HO_4; clear HO_13; clear HO_148001; clear BK147; clear HB; clear HO_14; have HO_4 := n0_; have HO_13 := n1_; have HO_148001 := n2_; have BK147 := n3_; have HB := n4_; have HO169 := n5_; clear n0_ n1_ n2_ n3_ n4_ n5_; clear ho hb hg hat))
                      go_roundg k2
                      case measure => have := HJ6.out; have := HK2.out; omega
                      case rel => exact ⟨(y167), (true), (wrap64 (x16_2 + 1)), (by first | rfl | (simp; done) | (simp [*]; done)), (by first | rfl | (simp; done) | (simp [*]; done)), H', ⟨by have := HJ6.out; have := HK2.out; omega⟩, ⟨by (with_reducible repeat (first | apply Kd.V_alloc | apply Kd.V_drewN | apply Kd.V_drew)); exact Kd.V_mono HO_4.out (fun _ hk => ⟨hk.1.1, ⟨hk.1.2.1, ⟨hk.2, hk.1.2.2⟩⟩⟩)⟩, ⟨by (with_reducible repeat (first | apply Kd.R_alloc | apply Kd.R_drewN | apply Kd.R_drew)); exact HO_13.out⟩, ⟨by (with_reducible repeat (first | apply Kd.R_alloc | apply Kd.R_drewN | apply Kd.R_drew)); exact HO169.out⟩, ⟨by (with_reducible repeat (first | apply Kd.V_alloc | apply Kd.V_drewN | apply Kd.V_drew)); exact Kd.V_mono HO_148001.out (fun _ hk => ⟨hk.1.1, ⟨hk.1.2.1, ⟨hk.2, hk.1.2.2⟩⟩⟩)⟩, ⟨by (with_reducible repeat (first | refine blk_drewN ?_ _ | refine blk_drew ?_ | refine blk_alloc ?_ _)); exact BK147.out⟩, ⟨by repeat (first | (with_reducible first | exact HB.out | apply below_alloc | apply pw_below_drewN | apply below_drew1 | refine below_set ?_ GE147.out) | exact HB.out)⟩⟩
                    · replace c104 := Bool.eq_false_iff.mpr c104
                      subst c104
                      rw [if_neg (show ¬ (false = true) by decide)] at H
                      have c107b0 := eq_true (of_decide_eq_true (by first | (with_reducible assumption) | assumption) : 0 ≤ x16_2)
                      by_cases c108 : x16_2 ≤ (wrap64 (x16_2 + 1))
                      · rw [if_pos c108] at H
                        have c108b0 := eq_true c108
                        have c108b1 : decide (x16_2 ≤ (wrap64 (x16_2 + 1))) = true := decide_eq_true c108
                        by_cases c109 : (wrap64 (x16_2 + 1)) ≤ (t163.length : Int)
                        · rw [if_pos c109] at H
                          have c109b0 := eq_true c109
                          have c109b1 : decide ((wrap64 (x16_2 + 1)) ≤ (t163.length : Int)) = true := decide_eq_true c109
                          obtain ⟨y170, hy170⟩ : ∃ y_ : List (S32), y_ = ((t163.take ((wrap64 (x16_2 + 1)) : Int).toNat).drop (x16_2 : Int).toNat) := ⟨_, rfl⟩
                          replace H : ((scrivenerref14_Among.f k2 y170 l4).bind fun t175 => (scrivenerlaw14_StripeMeets.l0 k2 a1 a2 l4 a5 t163 y167 (t175 == 1) (wrap64 (x16_2 + 1)) a0_0 l0_1)) = some r := by first | (rw [hy170]; with_reducible exact H) | (have H2_ := (Option.bind_some _ _).symm.trans H; rw [hy170]; with_reducible exact H2_) | (have H2_ := (Option.bind_some _ _).symm.trans H; with_reducible exact H2_) | with_reducible exact H | (rw [hy170]; exact H) | exact H
                          have Ny170 := Aside0.mk hy170
                          clear hy170
                          replace H := Option.bind_eq_some_iff.mp H
                          obtain ⟨t175, A1100, H⟩ := H
                          replace H : (scrivenerlaw14_StripeMeets.l0 k2 a1 a2 l4 a5 t163 y167 (t175 == 1) (wrap64 (x16_2 + 1)) a0_0 l0_1) = some r := H
                          have A110 := Aside0.mk A1100
                          clear A1100
                          have H' := Aside0.mk H
                          clear H
                          obtain ⟨Ao111, co111, eo111⟩ := Kd.R_slice HO_13.out
                          subst eo111
                          have p166 : 0 ≤ (x16_2 : Int) := of_decide_eq_true (by first | (with_reducible assumption) | assumption)
                          have q166 : x16_2 < (t163.length : Int) := of_decide_eq_true (by first | (with_reducible assumption) | assumption)
                          try (obtain ⟨Aoz_, coz_, eoz_⟩ := Kd.R_slice HO_13.out; subst eoz_)
                          obtain ⟨ad166, e166, hx166_0, hx166_1⟩ := at_T32 (Kd.R_reads' HO_13.out).2.2 x16_2 p166 q166
                          cases e166
                          replace p166 := eq_true p166
                          replace q166 := eq_true q166
                          go_wp2_with (first | ((with_reducible refine gate_builtin (b := .append) (xs := #[.tmp 75, .tmp 80]) rfl ?_); (try (refine gate_guard (by rfl) ?_; dsimp only)); at_builtin; refine Kd.R_append k32 (w0 := w) w.heap.size rfl (.tmp 75) (.tmp 80) 23 32 (.agg #[(.int .i64 0), (.int .u64 0)]) 16 rfl Try.underlying23 info32 rfl (by decide) (by omega) u14 x14_2 (⟨(rd_T32 t163 x16_2).f0, (rd_T32 t163 x16_2).f1⟩ : S32) [.int .i64 ((rd_T32 t163 x16_2).f0), .int .u64 ((rd_T32 t163 x16_2).f1)] (fun k_ => (w.heap.size ≤ k_) ∧ some k_ ≠ (.slice (some ad166) t163.length co111 : Value).ownBlock) (fun _ => False) rfl rfl ?aP (fun _ hk => hk.elim) ?aF ?aO ?aB ?aS ?aL ?_; (case aP => exact k32_mkM _ _ _ (⟨(rd_T32 t163 x16_2).f0, (rd_T32 t163 x16_2).f1⟩ : S32)); (case aB => exact (Hb HB.out)); (case aF => exact (fun k_ hk => ⟨(Nat.le_trans (below_size (Hb HB.out)) hk), Kd.fresh' (Kd.R_lt (Rb HO_13.out)) k_ hk⟩)); (case aO => exact (Rb HO_14.out)); (case aS => exact (below_size (Hb HB.out))); (case aL => have := LMc103.out; omega); intro v168 w112 ho hb hg hat; rw [← Ny167.out] at ho; have n0_ := Aside0.mk (Kd.V_afterv (ok := (fun k_ => ((P0_1_ k_ ∨ P4_ k_) ∨ w.heap.size ≤ k_) ∧ some k_ ≠ (.slice (some ad166) t163.length co111 : Value).ownBlock ∧ k_ ≠ gb147)) (by (with_reducible repeat (first | apply Kd.V_alloc | apply Kd.V_drewN | apply Kd.V_drew)); exact Kd.V_mono HO_4.out (fun _ hk => ⟨⟨hk.1, ⟨hk.2.1, hk.2.2.2⟩⟩, hk.2.2.1⟩)) hg hat); have n1_ := Aside0.mk (Kd.R_after (ok := (fun k_ => (w.heap.size ≤ k_))) (Rb HO_13.out) hg hat); have n2_ := Aside0.mk (Kd.V_afterv (ok := (fun k_ => ((P0_1_ k_ ∨ P4_ k_) ∨ w.heap.size ≤ k_) ∧ some k_ ≠ (.slice (some ad166) t163.length co111 : Value).ownBlock ∧ k_ ≠ gb147)) (by (with_reducible repeat (first | apply Kd.V_alloc | apply Kd.V_drewN | apply Kd.V_drew)); exact Kd.V_mono HO_148001.out (fun _ hk => ⟨⟨hk.1, ⟨hk.2.1, hk.2.2.2⟩⟩, hk.2.2.1⟩)) hg hat); have n3_ := Aside0.mk (blk_grown (g := gb147) (o := .cells #[.int .u64 a0_0, .slice A0_1 l0_1.length c0_1] 25 (0, 0)) (Bb BK147.out) hg (Kd.R_ne HO_14.out BK147.out (by decide))); have n4_ := Aside0.mk (hb); have n5_ := Aside0.mk (ho); clear HO_4; clear HO_13; clear HO_148001; clear BK147; clear HB; clear HO_14; have HO_4 := n0_; have HO_13 := n1_; have HO_148001 := n2_; have BK147 := n3_; have HB := n4_; have HO169 := n5_; clear n0_ n1_ n2_ n3_ n4_ n5_; clear ho hb hg hat; have q113 : ((wrap64 (x16_2 + 1)) : Int) ≤ ((t163.length : Int) : Int) := of_decide_eq_true (by first | (with_reducible assumption) | assumption); obtain ⟨i0113, hi0113, _, hsz113, _⟩ := info_parts info32; have hroom113 : t163.length ≤ co111 := (Kd.R_reads' HO_13.out).2.1; have hC113 : Kd.F k32 _ _ (some ad166) t163.length t163 := (Kd.V_at (base := w.heap.size) (Kd.V_mono (ok' := (fun k_ => ((((P0_1_ k_ ∨ P4_ k_) ∨ w.heap.size ≤ k_) ∧ some k_ ≠ (v168 : Value).ownBlock) ∧ k_ ≠ gb147))) (Kd.R_V (Kd.R_types (HO_13.out) BK147.out (by decide))) (fun k_ hk => ⟨⟨(.inr (hk.1.1)), hk.1.2⟩, hk.2⟩))).2.2; have ql113 : (x16_2 : Int) ≤ ((wrap64 (x16_2 + 1)) : Int) := of_decide_eq_true (by first | (with_reducible assumption) | assumption); have q0113 : (0 : Int) ≤ (x16_2 : Int) := of_decide_eq_true (by first | (with_reducible assumption) | assumption); have hcut113 := cut_mid (P := Try.prog) 23 32 .i64 .i64 Try.underlying23 hi0113 2 hsz113 (some ad166) t163.length co111 x16_2 (wrap64 (x16_2 + 1)) q0113 ql113 q113 hroom113; have hr113 := Kd.F_mid (lo := (x16_2 : Int).toNat) (hi := ((wrap64 (x16_2 + 1)) : Int).toNat) (c := co111) hC113 (by omega) (by omega) hroom113; obtain ⟨A113, hA113⟩ : ∃ A1, A1 = (if co111 = (x16_2 : Int).toNat then (some ad166) else ((some ad166) : Option Addr).map (·.add ((x16_2 : Int).toNat * 2))) := ⟨_, rfl⟩; obtain ⟨c113, hc113⟩ : ∃ c1, c1 = co111 - (x16_2 : Int).toNat := ⟨_, rfl⟩; have hy113 : y170.length = ((wrap64 (x16_2 + 1)) : Int).toNat - (x16_2 : Int).toNat := (by rw [Ny170.out, List.length_drop, List.length_take] <;> omega); rw [show ((t163).take ((wrap64 (x16_2 + 1)) : Int).toNat).drop (x16_2 : Int).toNat = y170 from Ny170.out.symm] at hr113; replace hr113 : Kd.F k32 _ _ A113 y170.length y170 := (by rw [hA113]; exact hr113); rw [← hy113, ← hA113, ← hc113] at hcut113; have HO174 := Aside0.mk (show Kd.V k32 32 _ w.heap.size _ (.slice A113 y170.length c113) y170 from Kd.V_mk (by rw [hy113, hc113]; exact Nat.sub_le_sub_right (Nat.le_trans (by omega) hroom113) _) hr113); have HC174 := Aside0.mk (show y170.length ≤ c113 from by rw [hy113, hc113]; exact Nat.sub_le_sub_right (Nat.le_trans (by omega) hroom113) _); clear hr113 hC113 hroom113 hi0113 hsz113 hc113; have KY113 := Aside0.mk hy113; have KA113 := Aside0.mk hA113; clear hy113 hA113; replace q113 := eq_true q113) | (go_at_call 14; (with_reducible refine (scrivenerref14_Among.calls k2 _ _ y170 _ _ l4 t175 _ ?side1 ?side2 ?side3 ?side4 A110.out).mono ?_); (case side1 => exact Cb (Kd.V_reads' HO174.out).2.2); (case side2 => exact (Kd.V_reads' HO174.out).2.1); (case side3 => exact Cb (Kd.V_reads' HO_4.out).2.2); (case side4 => exact (Kd.V_reads' HO_4.out).2.1); rintro e w' ⟨rfl, ⟨nd, rfl⟩⟩))
                          go_roundg k2
                          case measure => have := HJ6.out; have := HK2.out; omega
                          case rel => exact ⟨(y167), ((t175 == 1)), (wrap64 (x16_2 + 1)), (by first | rfl | (simp; done) | (simp [*]; done)), (by first | rfl | (simp; done) | (simp [*]; done)), H', ⟨by have := HJ6.out; have := HK2.out; omega⟩, ⟨by (with_reducible repeat (first | apply Kd.V_alloc | apply Kd.V_drewN | apply Kd.V_drew)); exact Kd.V_mono HO_4.out (fun _ hk => ⟨hk.1.1, ⟨hk.1.2.1, ⟨hk.2, hk.1.2.2⟩⟩⟩)⟩, ⟨by (with_reducible repeat (first | apply Kd.R_alloc | apply Kd.R_drewN | apply Kd.R_drew)); exact HO_13.out⟩, ⟨by (with_reducible repeat (first | apply Kd.R_alloc | apply Kd.R_drewN | apply Kd.R_drew)); exact HO169.out⟩, ⟨by (with_reducible repeat (first | apply Kd.V_alloc | apply Kd.V_drewN | apply Kd.V_drew)); exact Kd.V_mono HO_148001.out (fun _ hk => ⟨hk.1.1, ⟨hk.1.2.1, ⟨hk.2, hk.1.2.2⟩⟩⟩)⟩, ⟨by (with_reducible repeat (first | refine blk_drewN ?_ _ | refine blk_drew ?_ | refine blk_alloc ?_ _)); exact BK147.out⟩, ⟨by repeat (first | (with_reducible first | exact HB.out | apply below_alloc | apply pw_below_drewN | apply below_drew1 | refine below_set ?_ GE147.out) | exact HB.out)⟩⟩
                        · rw [if_neg c109] at H
                          exact absurd H (by simp)
                      · rw [if_neg c108] at H
                        exact absurd H (by simp)
                  · rw [if_neg c103] at H
                    exact absurd H (by simp)
                · rw [if_neg c102] at H
                  have c102b0 : ((Go.bits .and .i64 (ji101) 1) == 1) = false := beq_eq_false_iff_ne.mpr c102
                  have c102b1 : ((Go.bits .and .i64 (ji101) 1) != 1) = true := bne_iff_ne.mpr c102
                  have H' := Aside0.mk H
                  clear H
                  obtain ⟨Ao114, co114, eo114⟩ := Kd.R_slice HO_13.out
                  subst eo114
                  go_wp2
                  go_roundg k2
                  case measure => have := HJ6.out; have := HK2.out; omega
                  case rel => exact ⟨(x14_2), (x15_2), (wrap64 (x16_2 + 1)), (by first | rfl | (simp; done) | (simp [*]; done)), (by first | rfl | (simp; done) | (simp [*]; done)), H', ⟨by have := HJ6.out; have := HK2.out; omega⟩, ⟨by (with_reducible repeat (first | apply Kd.V_alloc | apply Kd.V_drewN | apply Kd.V_drew)); exact HO_4.out⟩, ⟨by (with_reducible repeat (first | apply Kd.R_alloc | apply Kd.R_drewN | apply Kd.R_drew)); exact HO_13.out⟩, ⟨by (with_reducible repeat (first | apply Kd.R_alloc | apply Kd.R_drewN | apply Kd.R_drew)); exact HO_14.out⟩, ⟨by (with_reducible repeat (first | apply Kd.V_alloc | apply Kd.V_drewN | apply Kd.V_drew)); exact HO_148001.out⟩, ⟨by (with_reducible repeat (first | refine blk_drewN ?_ _ | refine blk_drew ?_ | refine blk_alloc ?_ _)); exact BK147.out⟩, ⟨by repeat (first | (with_reducible first | exact HB.out | apply below_alloc | apply pw_below_drewN | apply below_drew1 | refine below_set ?_ GE147.out) | exact HB.out)⟩⟩
              · rw [if_neg c100] at H
                exact absurd H (by simp)
            · rw [if_neg c99] at H
              have c99b0 : decide (x16_2 < (t163.length : Int)) = false := decide_eq_false c99
              clear c99
              replace H := Option.bind_eq_some_iff.mp H
              obtain ⟨t176, A1150, H⟩ := H
              replace H : (if t176 = true then (if (t163.length : Int) = a1 then (if (x14_2.length : Int) < a2 then ((scrivenerlaw14_awake.f).bind fun t177 => (some t177)) else (if x15_2 = true then ((scrivenerlaw14_awake.f).bind fun t178 => (some t178)) else (some false))) else (some false)) else (scrivenerlaw14_StripeMeets.l1 k2 a1 a2 l4 0 a0_0 l0_1)) = some r := H
              have A115 := Aside0.mk A1150
              clear A1150
              by_cases c116 : t176 = true
              · subst c116
                rw [if_pos rfl] at H
                by_cases c117 : (t163.length : Int) = a1
                · rw [if_pos c117] at H
                  have c117b0 : ((t163.length : Int) == a1) = true := beq_iff_eq.mpr c117
                  have c117b1 : ((t163.length : Int) != a1) = false := bne_eq_false_iff_eq.mpr c117
                  clear c117
                  by_cases c118 : (x14_2.length : Int) < a2
                  · rw [if_pos c118] at H
                    have c118b0 : decide ((x14_2.length : Int) < a2) = true := decide_eq_true c118
                    clear c118
                    replace H := Option.bind_eq_some_iff.mp H
                    obtain ⟨t177, A1190, H⟩ := H
                    replace H : (some t177) = some r := H
                    have A119 := Aside0.mk A1190
                    clear A1190
                    obtain rfl := Option.some.inj H
                    obtain ⟨Ao120, co120, eo120⟩ := Kd.R_slice HO_13.out
                    subst eo120
                    have hcz121_0 : wr.cell? ⟨gb147, 0, none⟩ = some (.int .u64 a0_0) := (blk_cell BK147.out 0).trans rfl
                    have hcz121_1 : wr.cell? ⟨gb147, 1, none⟩ = some (.slice A0_1 l0_1.length c0_1) := (blk_cell BK147.out 1).trans rfl
                    have hfz121_0 := blk_frozen BK147.out 0
                    have hfz121_1 := blk_frozen BK147.out 1
                    go_wp2_with (first | ((with_reducible refine gate_callee (f := 15) rfl ?_); refine goesL_ (some 97) rfl rfl Try.func15 (by kernel_rfl) rfl #[.agg #[.int .u64 a0_0, .slice A0_1 l0_1.length c0_1], .int .i64 a1, .int .i64 a2, .slice A4 l4.length c4] rfl (by (try simp only [List.map_toArray, List.map_cons, List.map_nil]); first | done | rfl | (simp only [List.length_drop, List.length_take]; rfl)) ?_; (with_reducible refine (stripe_Covered.calls a0_0 _ _ l0_1 a1 a2 _ _ l4 true _ ?side1 ?side2 ?side3 ?side4 A115.out).mono ?_); (case side1 => exact Cb (Kd.V_reads' HO_148001.out).2.2); (case side2 => exact (Kd.V_reads' HO_148001.out).2.1); (case side3 => exact Cb (Kd.V_reads' HO_4.out).2.2); (case side4 => exact (Kd.V_reads' HO_4.out).2.1); rintro e w122 ⟨rfl, hb⟩; refine ⟨_, rfl, ?_⟩; have n0_ := Aside0.mk (Kd.V_below (Vb HO_4.out) hb); have n1_ := Aside0.mk (Kd.R_below (Rb HO_13.out) hb); have n2_ := Aside0.mk (Kd.R_below (Rb HO_14.out) hb); have n3_ := Aside0.mk (Kd.V_below (Vb HO_148001.out) hb); have n4_ := Aside0.mk (blk_below (Bb BK147.out) hb); have n5_ := Aside0.mk (below_step (Hb HB.out) hb); clear HO_4; clear HO_13; clear HO_14; clear HO_148001; clear BK147; clear HB; have HO_4 := n0_; have HO_13 := n1_; have HO_14 := n2_; have HO_148001 := n3_; have BK147 := n4_; have HB := n5_; clear n0_ n1_ n2_ n3_ n4_ n5_; (try clear hb); (try clear hb2); (try clear hk); (try clear hi); obtain ⟨Ao123, co123, eo123⟩ := Kd.R_slice HO_14.out; subst eo123) | (go_at_call 12; (with_reducible refine (scrivenerlaw14_awake.calls  t177 _ A119.out).mono ?_); rintro e w124 ⟨rfl, hb⟩; have n0_ := Aside0.mk (Kd.V_below (Vb HO_4.out) hb); have n1_ := Aside0.mk (Kd.R_below (Rb HO_13.out) hb); have n2_ := Aside0.mk (Kd.R_below (Rb HO_14.out) hb); have n3_ := Aside0.mk (Kd.V_below (Vb HO_148001.out) hb); have n4_ := Aside0.mk (blk_below (Bb BK147.out) hb); have n5_ := Aside0.mk (below_step (Hb HB.out) hb); clear HO_4; clear HO_13; clear HO_14; clear HO_148001; clear BK147; clear HB; have HO_4 := n0_; have HO_13 := n1_; have HO_14 := n2_; have HO_148001 := n3_; have BK147 := n4_; have HB := n5_; clear n0_ n1_ n2_ n3_ n4_ n5_; (try clear hb); (try clear hb2); (try clear hk); (try clear hi)))
                    go_ret
                    exact ⟨by first | rfl | (simp [errW_none, errW_some] <;> rfl) | (simp [*, errW_none, errW_some] <;> rfl), by repeat (first | (with_reducible first | exact HB.out | apply below_alloc | apply pw_below_drewN | apply below_drew1 | refine below_set ?_ GE147.out) | exact HB.out)⟩
                  · rw [if_neg c118] at H
                    have c118b0 : decide ((x14_2.length : Int) < a2) = false := decide_eq_false c118
                    clear c118
                    by_cases c125 : x15_2 = true
                    · subst c125
                      rw [if_pos rfl] at H
                      replace H := Option.bind_eq_some_iff.mp H
                      obtain ⟨t178, A1260, H⟩ := H
                      replace H : (some t178) = some r := H
                      have A126 := Aside0.mk A1260
                      clear A1260
                      obtain rfl := Option.some.inj H
                      obtain ⟨Ao127, co127, eo127⟩ := Kd.R_slice HO_13.out
                      subst eo127
                      have hcz128_0 : wr.cell? ⟨gb147, 0, none⟩ = some (.int .u64 a0_0) := (blk_cell BK147.out 0).trans rfl
                      have hcz128_1 : wr.cell? ⟨gb147, 1, none⟩ = some (.slice A0_1 l0_1.length c0_1) := (blk_cell BK147.out 1).trans rfl
                      have hfz128_0 := blk_frozen BK147.out 0
                      have hfz128_1 := blk_frozen BK147.out 1
                      go_wp2_with (first | ((with_reducible refine gate_callee (f := 15) rfl ?_); refine goesL_ (some 97) rfl rfl Try.func15 (by kernel_rfl) rfl #[.agg #[.int .u64 a0_0, .slice A0_1 l0_1.length c0_1], .int .i64 a1, .int .i64 a2, .slice A4 l4.length c4] rfl (by (try simp only [List.map_toArray, List.map_cons, List.map_nil]); first | done | rfl | (simp only [List.length_drop, List.length_take]; rfl)) ?_; (with_reducible refine (stripe_Covered.calls a0_0 _ _ l0_1 a1 a2 _ _ l4 true _ ?side1 ?side2 ?side3 ?side4 A115.out).mono ?_); (case side1 => exact Cb (Kd.V_reads' HO_148001.out).2.2); (case side2 => exact (Kd.V_reads' HO_148001.out).2.1); (case side3 => exact Cb (Kd.V_reads' HO_4.out).2.2); (case side4 => exact (Kd.V_reads' HO_4.out).2.1); rintro e w129 ⟨rfl, hb⟩; refine ⟨_, rfl, ?_⟩; have n0_ := Aside0.mk (Kd.V_below (Vb HO_4.out) hb); have n1_ := Aside0.mk (Kd.R_below (Rb HO_13.out) hb); have n2_ := Aside0.mk (Kd.R_below (Rb HO_14.out) hb); have n3_ := Aside0.mk (Kd.V_below (Vb HO_148001.out) hb); have n4_ := Aside0.mk (blk_below (Bb BK147.out) hb); have n5_ := Aside0.mk (below_step (Hb HB.out) hb); clear HO_4; clear HO_13; clear HO_14; clear HO_148001; clear BK147; clear HB; have HO_4 := n0_; have HO_13 := n1_; have HO_14 := n2_; have HO_148001 := n3_; have BK147 := n4_; have HB := n5_; clear n0_ n1_ n2_ n3_ n4_ n5_; (try clear hb); (try clear hb2); (try clear hk); (try clear hi); obtain ⟨Ao130, co130, eo130⟩ := Kd.R_slice HO_14.out; subst eo130) | (go_at_call 12; (with_reducible refine (scrivenerlaw14_awake.calls  t178 _ A126.out).mono ?_); rintro e w131 ⟨rfl, hb⟩; have n0_ := Aside0.mk (Kd.V_below (Vb HO_4.out) hb); have n1_ := Aside0.mk (Kd.R_below (Rb HO_13.out) hb); have n2_ := Aside0.mk (Kd.R_below (Rb HO_14.out) hb); have n3_ := Aside0.mk (Kd.V_below (Vb HO_148001.out) hb); have n4_ := Aside0.mk (blk_below (Bb BK147.out) hb); have n5_ := Aside0.mk (below_step (Hb HB.out) hb); clear HO_4; clear HO_13; clear HO_14; clear HO_148001; clear BK147; clear HB; have HO_4 := n0_; have HO_13 := n1_; have HO_14 := n2_; have HO_148001 := n3_; have BK147 := n4_; have HB := n5_; clear n0_ n1_ n2_ n3_ n4_ n5_; (try clear hb); (try clear hb2); (try clear hk); (try clear hi)))
                      go_ret
                      exact ⟨by first | rfl | (simp [errW_none, errW_some] <;> rfl) | (simp [*, errW_none, errW_some] <;> rfl), by repeat (first | (with_reducible first | exact HB.out | apply below_alloc | apply pw_below_drewN | apply below_drew1 | refine below_set ?_ GE147.out) | exact HB.out)⟩
                    · replace c125 := Bool.eq_false_iff.mpr c125
                      subst c125
                      rw [if_neg (show ¬ (false = true) by decide)] at H
                      exact absurd (Option.some.inj H) (by rw [HT_.out]; decide)
                · rw [if_neg c117] at H
                  have c117b0 : ((t163.length : Int) == a1) = false := beq_eq_false_iff_ne.mpr c117
                  have c117b1 : ((t163.length : Int) != a1) = true := bne_iff_ne.mpr c117
                  exact absurd (Option.some.inj H) (by rw [HT_.out]; decide)
              · replace c116 := Bool.eq_false_iff.mpr c116
                subst c116
                rw [if_neg (show ¬ (false = true) by decide)] at H
                have H' := Aside0.mk H
                clear H
                obtain ⟨Ao132, co132, eo132⟩ := Kd.R_slice HO_13.out
                subst eo132
                have hcz133_0 : wr.cell? ⟨gb147, 0, none⟩ = some (.int .u64 a0_0) := (blk_cell BK147.out 0).trans rfl
                have hcz133_1 : wr.cell? ⟨gb147, 1, none⟩ = some (.slice A0_1 l0_1.length c0_1) := (blk_cell BK147.out 1).trans rfl
                have hfz133_0 := blk_frozen BK147.out 0
                have hfz133_1 := blk_frozen BK147.out 1
                go_wp2_with (first | ((with_reducible refine gate_callee (f := 15) rfl ?_); refine goesL_ (some 97) rfl rfl Try.func15 (by kernel_rfl) rfl #[.agg #[.int .u64 a0_0, .slice A0_1 l0_1.length c0_1], .int .i64 a1, .int .i64 a2, .slice A4 l4.length c4] rfl (by (try simp only [List.map_toArray, List.map_cons, List.map_nil]); first | done | rfl | (simp only [List.length_drop, List.length_take]; rfl)) ?_; (with_reducible refine (stripe_Covered.calls a0_0 _ _ l0_1 a1 a2 _ _ l4 false _ ?side1 ?side2 ?side3 ?side4 A115.out).mono ?_); (case side1 => exact Cb (Kd.V_reads' HO_148001.out).2.2); (case side2 => exact (Kd.V_reads' HO_148001.out).2.1); (case side3 => exact Cb (Kd.V_reads' HO_4.out).2.2); (case side4 => exact (Kd.V_reads' HO_4.out).2.1); rintro e w134 ⟨rfl, hb⟩; refine ⟨_, rfl, ?_⟩; have n0_ := Aside0.mk (Kd.V_below (Vb HO_4.out) hb); have n1_ := Aside0.mk (Kd.R_below (Rb HO_13.out) hb); have n2_ := Aside0.mk (Kd.R_below (Rb HO_14.out) hb); have n3_ := Aside0.mk (Kd.V_below (Vb HO_148001.out) hb); have n4_ := Aside0.mk (blk_below (Bb BK147.out) hb); have n5_ := Aside0.mk (below_step (Hb HB.out) hb); clear HO_4; clear HO_13; clear HO_14; clear HO_148001; clear BK147; clear HB; have HO_4 := n0_; have HO_13 := n1_; have HO_14 := n2_; have HO_148001 := n3_; have BK147 := n4_; have HB := n5_; clear n0_ n1_ n2_ n3_ n4_ n5_; (try clear hb); (try clear hb2); (try clear hk); (try clear hi)))
                go_loopg [17] k2 (fun kq v17 w' => ∃ (x17_3 : Int), v17 = .int .i64 x17_3 ∧ Aside0 (scrivenerlaw14_StripeMeets.l1 kq a1 a2 l4 x17_3 a0_0 l0_1 = some r) ∧ Aside0 (kq ≤ k2) ∧ Aside0 (Kd.V k32 32 w' w.heap.size (fun k_ => ((P0_1_ k_ ∨ P4_ k_) ∨ w.heap.size ≤ k_) ∧ k_ ≠ gb147) (.slice A4 l4.length c4) l4) ∧ Aside0 (Kd.V k32 32 w' w.heap.size (fun k_ => ((P0_1_ k_ ∨ P4_ k_) ∨ w.heap.size ≤ k_) ∧ k_ ≠ gb147) (.slice A0_1 l0_1.length c0_1) l0_1) ∧ Aside0 (w'.heap[gb147]? = some (.cells #[.int .u64 a0_0, (.slice A0_1 l0_1.length c0_1)] 25 (0, 0))) ∧ Aside0 (Below w.heap.size w w'))
                case atStart => exact ⟨(0), (by first | rfl | (simp; done) | (simp [*]; done)), H', ⟨Nat.le_refl _⟩, ⟨by (with_reducible repeat (first | apply Kd.V_alloc | apply Kd.V_drewN | apply Kd.V_drew)); exact Kd.V_mono HO_4.out (fun _ hk => ⟨hk.1, hk.2.2.2⟩)⟩, ⟨by (with_reducible repeat (first | apply Kd.V_alloc | apply Kd.V_drewN | apply Kd.V_drew)); exact Kd.V_mono HO_148001.out (fun _ hk => ⟨hk.1, hk.2.2.2⟩)⟩, ⟨by (with_reducible repeat (first | refine blk_drewN ?_ _ | refine blk_drew ?_ | refine blk_alloc ?_ _)); exact BK147.out⟩, ⟨by repeat (first | (with_reducible first | exact HB.out | apply below_alloc | apply pw_below_drewN | apply below_drew1 | refine below_set ?_ GE147.out) | exact HB.out)⟩⟩
                case round =>
                  clear H'
                  try clear c1
                  try clear p1
                  try clear q1
                  try clear hx1
                  try clear c2
                  try clear p2
                  try clear c3
                  try clear c4
                  try clear p6
                  try clear c9
                  try clear c10
                  try clear c11
                  try clear q11
                  try clear c12
                  try clear c13
                  try clear c15
                  try clear p16
                  try clear q16
                  try clear hx16
                  try clear c19
                  try clear c19b0
                  try clear c28
                  try clear c28b0
                  try clear c37
                  try clear c37b0
                  try clear c47
                  try clear c48
                  try clear c48b0
                  try clear p64
                  try clear c90
                  try clear c99
                  try clear c99b0
                  try clear c100
                  try clear c100b0
                  try clear c100b1
                  try clear c102
                  try clear c102b0
                  try clear c102b1
                  try clear c103
                  try clear c104
                  try clear c107
                  try clear c107b0
                  try clear c108
                  try clear c108b0
                  try clear c108b1
                  try clear c109
                  try clear c109b0
                  try clear c109b1
                  try clear c113
                  try clear q113
                  try clear c116
                  try clear c117
                  try clear c117b0
                  try clear c117b1
                  try clear c118
                  try clear c118b0
                  try clear c125
                  try clear hcz11_0
                  try clear hcz11_1
                  try clear hcz121_0
                  try clear hcz121_1
                  try clear hcz128_0
                  try clear hcz128_1
                  try clear hcz133_0
                  try clear hcz133_1
                  try clear hcz20_0
                  try clear hcz20_1
                  try clear hcz29_0
                  try clear hcz29_1
                  try clear hcz38_0
                  try clear hcz38_1
                  try clear hcz49_0
                  try clear hcz49_1
                  try clear hcz57_0
                  try clear hcz57_1
                  try clear hcz62_0
                  try clear hcz62_1
                  try clear hcz63_0
                  try clear hcz63_1
                  try clear hcz71_0
                  try clear hcz71_1
                  try clear hcz76_0
                  try clear hcz76_1
                  try clear hcz77_0
                  try clear hcz77_1
                  try clear hcz85_0
                  try clear hcz85_1
                  try clear hcz94_0
                  try clear hcz94_1
                  try clear hfz11_0
                  try clear hfz11_1
                  try clear hfz121_0
                  try clear hfz121_1
                  try clear hfz128_0
                  try clear hfz128_1
                  try clear hfz133_0
                  try clear hfz133_1
                  try clear hfz20_0
                  try clear hfz20_1
                  try clear hfz29_0
                  try clear hfz29_1
                  try clear hfz38_0
                  try clear hfz38_1
                  try clear hfz49_0
                  try clear hfz49_1
                  try clear hfz57_0
                  try clear hfz57_1
                  try clear hfz62_0
                  try clear hfz62_1
                  try clear hfz63_0
                  try clear hfz63_1
                  try clear hfz71_0
                  try clear hfz71_1
                  try clear hfz76_0
                  try clear hfz76_1
                  try clear hfz77_0
                  try clear hfz77_1
                  try clear hfz85_0
                  try clear hfz85_1
                  try clear hfz94_0
                  try clear hfz94_1
                  try clear hx166_0
                  try clear hx166_1
                  try clear p166
                  try clear p2
                  try clear q0113
                  try clear q113
                  try clear q166
                  obtain ⟨x17_3, rfl, HA, HK3, HO_4, HO_148001, BK147, HB⟩ := hrel
                  cases gk with
                  | zero => exact absurd HA.out (by simp [scrivenerlaw14_StripeMeets.l1])
                  | succ k3 =>
                    have H := HA.out
                    clear HA
                    simp only [scrivenerlaw14_StripeMeets.l1] at H
                    by_cases c135 : x17_3 < (l0_1.length : Int)
                    · rw [if_pos c135] at H
                      have c135b0 : decide (x17_3 < (l0_1.length : Int)) = true := decide_eq_true c135
                      clear c135
                      obtain ⟨y179, hy179⟩ : ∃ y_ : List (S25), y_ = (([(⟨a0_0, l0_1⟩ : S25)] : List (S25))) := ⟨_, rfl⟩
                      replace H : ((stripe_Set.f k3 y179 a1 (IntKind.u64.wrap (a0_0 + (IntKind.u64.wrap (x17_3))))).bind fun t182 => ((scrivenerref14_Among.f k3 t182 l4).bind fun t185 => (if (wrap64 ((t182.length : Int) - t185)) ≥ a2 then ((scrivenerlaw14_awake.f).bind fun t186 => (some t186)) else (scrivenerlaw14_StripeMeets.l1 k3 a1 a2 l4 (wrap64 (x17_3 + 1)) a0_0 l0_1)))) = some r := by first | (rw [hy179]; with_reducible exact H) | (have H2_ := (Option.bind_some _ _).symm.trans H; rw [hy179]; with_reducible exact H2_) | (have H2_ := (Option.bind_some _ _).symm.trans H; with_reducible exact H2_) | with_reducible exact H | (rw [hy179]; exact H) | exact H
                      have Ny179 := Aside0.mk hy179
                      clear hy179
                      replace H := Option.bind_eq_some_iff.mp H
                      obtain ⟨t182, A1360, H⟩ := H
                      replace H : ((scrivenerref14_Among.f k3 t182 l4).bind fun t185 => (if (wrap64 ((t182.length : Int) - t185)) ≥ a2 then ((scrivenerlaw14_awake.f).bind fun t186 => (some t186)) else (scrivenerlaw14_StripeMeets.l1 k3 a1 a2 l4 (wrap64 (x17_3 + 1)) a0_0 l0_1))) = some r := H
                      have A136 := Aside0.mk A1360
                      clear A1360
                      replace H := Option.bind_eq_some_iff.mp H
                      obtain ⟨t185, A1370, H⟩ := H
                      replace H : (if (wrap64 ((t182.length : Int) - t185)) ≥ a2 then ((scrivenerlaw14_awake.f).bind fun t186 => (some t186)) else (scrivenerlaw14_StripeMeets.l1 k3 a1 a2 l4 (wrap64 (x17_3 + 1)) a0_0 l0_1)) = some r := H
                      have A137 := Aside0.mk A1370
                      clear A1370
                      by_cases c138 : (wrap64 ((t182.length : Int) - t185)) ≥ a2
                      · rw [if_pos c138] at H
                        have c138b0 : decide (a2 ≤ (wrap64 ((t182.length : Int) - t185))) = true := decide_eq_true c138
                        clear c138
                        replace H := Option.bind_eq_some_iff.mp H
                        obtain ⟨t186, A1390, H⟩ := H
                        replace H : (some t186) = some r := H
                        have A139 := Aside0.mk A1390
                        clear A1390
                        obtain rfl := Option.some.inj H
                        have hcz140_0 : wr.cell? ⟨gb147, 0, none⟩ = some (.int .u64 a0_0) := (blk_cell BK147.out 0).trans rfl
                        have hcz140_1 : wr.cell? ⟨gb147, 1, none⟩ = some (.slice A0_1 l0_1.length c0_1) := (blk_cell BK147.out 1).trans rfl
                        have hfz140_0 := blk_frozen BK147.out 0
                        have hfz140_1 := blk_frozen BK147.out 1
                        go_wp2_with (first | ((with_reducible refine gate_dst (N := 122) rfl ?_); (try (refine gate_guard (by rfl) ?_; dsimp only)); refine Kd.N_lit k25 _ 25 ?hg (N' := 122) ?hd (xs := ([(⟨a0_0, l0_1⟩ : S25)] : List (S25))) (inner := [.int .u64 a0_0, .slice A0_1 l0_1.length c0_1]) (ok := (fun k_ => ((P0_1_ k_ ∨ P4_ k_) ∨ w.heap.size ≤ k_) ∧ k_ ≠ gb147)) (okp := (fun k_ => ((P0_1_ k_ ∨ P4_ k_) ∨ w.heap.size ≤ k_) ∧ k_ ≠ gb147)) ?hr ?hp (fun _ hk => hk) ((show ∀ k_, wr.heap.size ≤ k_ → (fun k_ => ((P0_1_ k_ ∨ P4_ k_) ∨ w.heap.size ≤ k_) ∧ k_ ≠ gb147) k_ from fun k_ hk => ⟨(.inr (Nat.le_trans (below_size (Hb HB.out)) hk)), Kd.freshB (Bb BK147.out) k_ hk⟩) _ (Nat.le_refl _)) (Below.refl _ _) (Nat.le_refl _) (by simp) ?_; (case hd => rfl); (case hg => rfl); (case hr => first | (go_simp; done) | (go_simp; rfl)); (case hp => exact (Reps.c2 (show Kd.FK k25 _ _ (⟨a0_0, l0_1⟩ : S25) [.int .u64 a0_0, .slice A0_1 l0_1.length c0_1] from (k25_mkF _ _ (⟨a0_0, l0_1⟩ : S25) (Kd.V_reads' HO_148001.out).2.1 (Kd.V_F (Kd.V_mono (Vb HO_148001.out) (fun k_ hk => ⟨hk.1, hk.2⟩))))) (Reps.none _ _))); intro v180 w141 ho142 hb hg_ hnew_; clear hg_ hnew_; (first | rw [← Ny179.out] at ho142 | (simp only [Int.reduceToNat] at ho142; rw [← Ny179.out] at ho142)); have n0_ := Aside0.mk (Kd.V_elder' (Vb HO_4.out) (Kd.N_base ho142) hb); have n1_ := Aside0.mk (Kd.V_elder' (Vb HO_148001.out) (Kd.N_base ho142) hb); have n2_ := Aside0.mk (Kd.N_lower ho142 (below_size (Hb HB.out))); have n3_ := Aside0.mk (blk_below (Bb BK147.out) hb); have n4_ := Aside0.mk (below_step (Hb HB.out) hb); clear HO_4; clear HO_148001; clear BK147; clear HB; have HO_4 := n0_; have HO_148001 := n1_; have HO181 := n2_; have BK147 := n3_; have HB := n4_; clear n0_ n1_ n2_ n3_ n4_; clear hb ho142; have hcz143_0 : w141.cell? ⟨gb147, 0, none⟩ = some (.int .u64 a0_0) := (blk_cell BK147.out 0).trans rfl; have hcz143_1 : w141.cell? ⟨gb147, 1, none⟩ = some (.slice A0_1 l0_1.length c0_1) := (blk_cell BK147.out 1).trans rfl; have hfz143_0 := blk_frozen BK147.out 0; have hfz143_1 := blk_frozen BK147.out 1; obtain ⟨Ao144, co144, eo144⟩ := Kd.N_slice HO181.out; subst eo144) | ((with_reducible refine gate_callee (f := 13) rfl ?_); refine goesL_ (some 129) rfl rfl Try.func13 (by kernel_rfl) rfl #[.slice Ao144 y179.length co144, .int .i64 a1, .int .u64 (IntKind.u64.wrap (a0_0 + (IntKind.u64.wrap (x17_3))))] rfl (by (try simp only [List.map_toArray, List.map_cons, List.map_nil]); first | done | rfl | (simp only [List.length_drop, List.length_take]; rfl)) ?_; (with_reducible refine (stripe_Set.calls k3 _ _ y179 a1 (IntKind.u64.wrap (a0_0 + (IntKind.u64.wrap (x17_3)))) t182 _ ?side1 ?side2 A136.out).mono ?_); (case side1 => exact Cb (Kd.N_reads' HO181.out).2.2); (case side2 => exact (Kd.N_reads' HO181.out).2.1); rintro e w145 ⟨v183, rfl, ho0, hb⟩; refine ⟨_, rfl, ?_⟩; have n0_ := Aside0.mk (Kd.V_elder' (Vb HO_4.out) (Kd.R_base ho0) hb); have n1_ := Aside0.mk (Kd.V_elder' (Vb HO_148001.out) (Kd.R_base ho0) hb); have n2_ := Aside0.mk (Kd.N_elder' (Nb HO181.out) (Kd.R_base ho0) hb); have n3_ := Aside0.mk (Kd.R_lower (Kd.R_newM (M := fun k_ => (w.heap.size ≤ k_)) ho0 (below_size (Hb HB.out)) (fun k_ h_ => h_)) (below_size (Hb HB.out))); have n4_ := Aside0.mk (blk_below (Bb BK147.out) hb); have n5_ := Aside0.mk (below_step (Hb HB.out) hb); clear HO_4; clear HO_148001; clear HO181; clear BK147; clear HB; have HO_4 := n0_; have HO_148001 := n1_; have HO181 := n2_; have HO184 := n3_; have BK147 := n4_; have HB := n5_; clear n0_ n1_ n2_ n3_ n4_ n5_; (try clear hb); (try clear hb2); (try clear hk); (try clear hi); (try clear ho0); obtain ⟨Ao146, co146, eo146⟩ := Kd.R_slice HO184.out; subst eo146) | ((with_reducible refine gate_callee (f := 14) rfl ?_); refine goesL_ (some 134) rfl rfl Try.func14 (by kernel_rfl) rfl #[.slice Ao146 t182.length co146, .slice A4 l4.length c4] rfl (by (try simp only [List.map_toArray, List.map_cons, List.map_nil]); first | done | rfl | (simp only [List.length_drop, List.length_take]; rfl)) ?_; (with_reducible refine (scrivenerref14_Among.calls k3 _ _ t182 _ _ l4 t185 _ ?side1 ?side2 ?side3 ?side4 A137.out).mono ?_); (case side1 => exact Cb (Kd.R_reads' HO184.out).2.2); (case side2 => exact (Kd.R_reads' HO184.out).2.1); (case side3 => exact Cb (Kd.V_reads' HO_4.out).2.2); (case side4 => exact (Kd.V_reads' HO_4.out).2.1); rintro e w' ⟨rfl, ⟨nd, rfl⟩⟩; refine ⟨_, rfl, ?_⟩) | ((with_reducible refine gate_callee (f := 12) rfl ?_); refine goesL_ (some 138) rfl rfl Try.func12 (by kernel_rfl) rfl #[] rfl (by (try simp only [List.map_toArray, List.map_cons, List.map_nil]); first | done | rfl | (simp only [List.length_drop, List.length_take]; rfl)) ?_; (with_reducible refine (scrivenerlaw14_awake.calls  t186 _ A139.out).mono ?_); rintro e w147 ⟨rfl, hb⟩; refine ⟨_, rfl, ?_⟩; have n0_ := Aside0.mk (Kd.V_below (Vb HO_4.out) hb); have n1_ := Aside0.mk (Kd.V_below (Vb HO_148001.out) hb); have n2_ := Aside0.mk (Kd.N_below (Nb HO181.out) hb); have n3_ := Aside0.mk (Kd.R_below (Rb HO184.out) hb); have n4_ := Aside0.mk (blk_below (Bb BK147.out) hb); have n5_ := Aside0.mk (below_step (Hb HB.out) hb); clear HO_4; clear HO_148001; clear HO181; clear HO184; clear BK147; clear HB; have HO_4 := n0_; have HO_148001 := n1_; have HO181 := n2_; have HO184 := n3_; have BK147 := n4_; have HB := n5_; clear n0_ n1_ n2_ n3_ n4_ n5_; (try clear hb); (try clear hb2); (try clear hk); (try clear hi)))
                        go_ret
                        exact ⟨by first | rfl | (simp [errW_none, errW_some] <;> rfl) | (simp [*, errW_none, errW_some] <;> rfl), by repeat (first | (with_reducible first | exact HB.out | apply below_alloc | apply pw_below_drewN | apply below_drew1 | refine below_set ?_ GE147.out) | exact HB.out)⟩
                      · rw [if_neg c138] at H
                        have c138b0 : decide (a2 ≤ (wrap64 ((t182.length : Int) - t185))) = false := decide_eq_false c138
                        clear c138
                        have H' := Aside0.mk H
                        clear H
                        have hcz148_0 : wr.cell? ⟨gb147, 0, none⟩ = some (.int .u64 a0_0) := (blk_cell BK147.out 0).trans rfl
                        have hcz148_1 : wr.cell? ⟨gb147, 1, none⟩ = some (.slice A0_1 l0_1.length c0_1) := (blk_cell BK147.out 1).trans rfl
                        have hfz148_0 := blk_frozen BK147.out 0
                        have hfz148_1 := blk_frozen BK147.out 1
                        go_wp2_with (first | ((with_reducible refine gate_dst (N := 122) rfl ?_); (try (refine gate_guard (by rfl) ?_; dsimp only)); refine Kd.N_lit k25 _ 25 ?hg (N' := 122) ?hd (xs := ([(⟨a0_0, l0_1⟩ : S25)] : List (S25))) (inner := [.int .u64 a0_0, .slice A0_1 l0_1.length c0_1]) (ok := (fun k_ => ((P0_1_ k_ ∨ P4_ k_) ∨ w.heap.size ≤ k_) ∧ k_ ≠ gb147)) (okp := (fun k_ => ((P0_1_ k_ ∨ P4_ k_) ∨ w.heap.size ≤ k_) ∧ k_ ≠ gb147)) ?hr ?hp (fun _ hk => hk) ((show ∀ k_, wr.heap.size ≤ k_ → (fun k_ => ((P0_1_ k_ ∨ P4_ k_) ∨ w.heap.size ≤ k_) ∧ k_ ≠ gb147) k_ from fun k_ hk => ⟨(.inr (Nat.le_trans (below_size (Hb HB.out)) hk)), Kd.freshB (Bb BK147.out) k_ hk⟩) _ (Nat.le_refl _)) (Below.refl _ _) (Nat.le_refl _) (by simp) ?_; (case hd => rfl); (case hg => rfl); (case hr => first | (go_simp; done) | (go_simp; rfl)); (case hp => exact (Reps.c2 (show Kd.FK k25 _ _ (⟨a0_0, l0_1⟩ : S25) [.int .u64 a0_0, .slice A0_1 l0_1.length c0_1] from (k25_mkF _ _ (⟨a0_0, l0_1⟩ : S25) (Kd.V_reads' HO_148001.out).2.1 (Kd.V_F (Kd.V_mono (Vb HO_148001.out) (fun k_ hk => ⟨hk.1, hk.2⟩))))) (Reps.none _ _))); intro v180 w149 ho150 hb hg_ hnew_; clear hg_ hnew_; (first | rw [← Ny179.out] at ho150 | (simp only [Int.reduceToNat] at ho150; rw [← Ny179.out] at ho150)); have n0_ := Aside0.mk (Kd.V_elder' (Vb HO_4.out) (Kd.N_base ho150) hb); have n1_ := Aside0.mk (Kd.V_elder' (Vb HO_148001.out) (Kd.N_base ho150) hb); have n2_ := Aside0.mk (Kd.N_lower ho150 (below_size (Hb HB.out))); have n3_ := Aside0.mk (blk_below (Bb BK147.out) hb); have n4_ := Aside0.mk (below_step (Hb HB.out) hb); clear HO_4; clear HO_148001; clear BK147; clear HB; have HO_4 := n0_; have HO_148001 := n1_; have HO181 := n2_; have BK147 := n3_; have HB := n4_; clear n0_ n1_ n2_ n3_ n4_; clear hb ho150; have hcz151_0 : w149.cell? ⟨gb147, 0, none⟩ = some (.int .u64 a0_0) := (blk_cell BK147.out 0).trans rfl; have hcz151_1 : w149.cell? ⟨gb147, 1, none⟩ = some (.slice A0_1 l0_1.length c0_1) := (blk_cell BK147.out 1).trans rfl; have hfz151_0 := blk_frozen BK147.out 0; have hfz151_1 := blk_frozen BK147.out 1; obtain ⟨Ao152, co152, eo152⟩ := Kd.N_slice HO181.out; subst eo152) | ((with_reducible refine gate_callee (f := 13) rfl ?_); refine goesL_ (some 129) rfl rfl Try.func13 (by kernel_rfl) rfl #[.slice Ao152 y179.length co152, .int .i64 a1, .int .u64 (IntKind.u64.wrap (a0_0 + (IntKind.u64.wrap (x17_3))))] rfl (by (try simp only [List.map_toArray, List.map_cons, List.map_nil]); first | done | rfl | (simp only [List.length_drop, List.length_take]; rfl)) ?_; (with_reducible refine (stripe_Set.calls k3 _ _ y179 a1 (IntKind.u64.wrap (a0_0 + (IntKind.u64.wrap (x17_3)))) t182 _ ?side1 ?side2 A136.out).mono ?_); (case side1 => exact Cb (Kd.N_reads' HO181.out).2.2); (case side2 => exact (Kd.N_reads' HO181.out).2.1); rintro e w153 ⟨v183, rfl, ho0, hb⟩; refine ⟨_, rfl, ?_⟩; have n0_ := Aside0.mk (Kd.V_elder' (Vb HO_4.out) (Kd.R_base ho0) hb); have n1_ := Aside0.mk (Kd.V_elder' (Vb HO_148001.out) (Kd.R_base ho0) hb); have n2_ := Aside0.mk (Kd.N_elder' (Nb HO181.out) (Kd.R_base ho0) hb); have n3_ := Aside0.mk (Kd.R_lower (Kd.R_newM (M := fun k_ => (w.heap.size ≤ k_)) ho0 (below_size (Hb HB.out)) (fun k_ h_ => h_)) (below_size (Hb HB.out))); have n4_ := Aside0.mk (blk_below (Bb BK147.out) hb); have n5_ := Aside0.mk (below_step (Hb HB.out) hb); clear HO_4; clear HO_148001; clear HO181; clear BK147; clear HB; have HO_4 := n0_; have HO_148001 := n1_; have HO181 := n2_; have HO184 := n3_; have BK147 := n4_; have HB := n5_; clear n0_ n1_ n2_ n3_ n4_ n5_; (try clear hb); (try clear hb2); (try clear hk); (try clear hi); (try clear ho0); obtain ⟨Ao154, co154, eo154⟩ := Kd.R_slice HO184.out; subst eo154) | ((with_reducible refine gate_callee (f := 14) rfl ?_); refine goesL_ (some 134) rfl rfl Try.func14 (by kernel_rfl) rfl #[.slice Ao154 t182.length co154, .slice A4 l4.length c4] rfl (by (try simp only [List.map_toArray, List.map_cons, List.map_nil]); first | done | rfl | (simp only [List.length_drop, List.length_take]; rfl)) ?_; (with_reducible refine (scrivenerref14_Among.calls k3 _ _ t182 _ _ l4 t185 _ ?side1 ?side2 ?side3 ?side4 A137.out).mono ?_); (case side1 => exact Cb (Kd.R_reads' HO184.out).2.2); (case side2 => exact (Kd.R_reads' HO184.out).2.1); (case side3 => exact Cb (Kd.V_reads' HO_4.out).2.2); (case side4 => exact (Kd.V_reads' HO_4.out).2.1); rintro e w' ⟨rfl, ⟨nd, rfl⟩⟩; refine ⟨_, rfl, ?_⟩))
                        go_roundg k3
                        case measure => have := HJ6.out; have := HK2.out; have := HK3.out; omega
                        case rel => exact ⟨(wrap64 (x17_3 + 1)), (by first | rfl | (simp; done) | (simp [*]; done)), H', ⟨by have := HJ6.out; have := HK2.out; have := HK3.out; omega⟩, ⟨by (with_reducible repeat (first | apply Kd.V_alloc | apply Kd.V_drewN | apply Kd.V_drew)); exact Kd.V_mono HO_4.out (fun _ hk => ⟨hk.1.1.1, hk.1.1.2⟩)⟩, ⟨by (with_reducible repeat (first | apply Kd.V_alloc | apply Kd.V_drewN | apply Kd.V_drew)); exact Kd.V_mono HO_148001.out (fun _ hk => ⟨hk.1.1.1, hk.1.1.2⟩)⟩, ⟨by (with_reducible repeat (first | refine blk_drewN ?_ _ | refine blk_drew ?_ | refine blk_alloc ?_ _)); exact BK147.out⟩, ⟨by repeat (first | (with_reducible first | exact HB.out | apply below_alloc | apply pw_below_drewN | apply below_drew1 | refine below_set ?_ GE147.out) | exact HB.out)⟩⟩
                    · rw [if_neg c135] at H
                      have c135b0 : decide (x17_3 < (l0_1.length : Int)) = false := decide_eq_false c135
                      clear c135
                      exact absurd (Option.some.inj H) (by rw [HT_.out]; decide)
end Go.Proofs.Ytipjnfljkknmgaa.Q
namespace Go.Proofs.Ytipjnfljkknmgaa.Q
open Go.RowKit Go.Proofs.YtipjnfljkknmgaaW.PrintWords Go.Proofs.YtipjnfljkknmgaaW.PrintLast Go.Proofs.YtipjnfljkknmgaaW.PrintMore
attribute [local go_sem] max2_int min2_int max_two min_two max_three min_three max_four min_four   -- for this text's walks alone
set_option linter.unusedVariables false
set_option linter.unusedSimpArgs false
def scrivenerref14_Missing.f (k : Nat) (l0 : List (S32)) (a1 : Int) (a2 : Int) (l3 : List (S32)) : Option (Bool) := if a2 > a1 then (some true) else ((scrivenerref14_Among.f k l0 l3).bind fun t202 => (some (decide (t202 > (wrap64 (a1 - a2))))))
set_option maxHeartbeats 8000000 in
set_option maxRecDepth 100000 in
theorem scrivenerref14_Missing.calls (k : Nat) (A0 : Option Addr) (c0 : Nat) (l0 : List (S32)) (a1 : Int) (a2 : Int) (A3 : Option Addr) (c3 : Nat) (l3 : List (S32)) (r : Bool) (w : World) (hr0 : Kd.C k32 w A0 l0.length l0) (hc0 : l0.length ≤ c0) (hr3 : Kd.C k32 w A3 l3.length l3) (hc3 : l3.length ≤ c3) (h : scrivenerref14_Missing.f k l0 a1 a2 l3 = some r) :
    Calls Try.prog 20 #[.slice A0 l0.length c0, .int .i64 a1, .int .i64 a2, .slice A3 l3.length c3] w fun e w' => e = .returned (.bool r) ∧ Drawn0 w w' := by
  have HR0 := Aside0.mk hr0
  have HC0 := Aside0.mk hc0
  clear hr0 hc0
  have HR3 := Aside0.mk hr3
  have HC3 := Aside0.mk hc3
  clear hr3 hc3
  have H : (if a2 > a1 then (some true) else ((scrivenerref14_Among.f k l0 l3).bind fun t202 => (some (decide (t202 > (wrap64 (a1 - a2))))))) = some r := h
  clear h
  by_cases c5 : a2 > a1
  · rw [if_pos c5] at H
    have c5b0 : decide (a1 < a2) = true := decide_eq_true c5
    clear c5
    obtain rfl := Option.some.inj H
    go_enter Try.func20, Try.ntmps20
    go_wp2
    go_ret
    exact ⟨by first | rfl | (simp; done) | (simp [*]; done), by repeat (first | exact Drawn0.refl _ | apply Drawn0.step)⟩
  · rw [if_neg c5] at H
    have c5b0 : decide (a1 < a2) = false := decide_eq_false c5
    clear c5
    replace H := Option.bind_eq_some_iff.mp H
    obtain ⟨t202, A60, H⟩ := H
    replace H : (some (decide (t202 > (wrap64 (a1 - a2))))) = some r := H
    have A6 := Aside0.mk A60
    clear A60
    obtain rfl := Option.some.inj H
    go_enter Try.func20, Try.ntmps20
    go_wp2_with (first | ((with_reducible refine gate_callee (f := 14) rfl ?_); refine goesL_ (some 14) rfl rfl Try.func14 (by kernel_rfl) rfl #[.slice A0 l0.length c0, .slice A3 l3.length c3] rfl (by (try simp only [List.map_toArray, List.map_cons, List.map_nil]); first | done | rfl | (simp only [List.length_drop, List.length_take]; rfl)) ?_; (with_reducible refine (scrivenerref14_Among.calls k _ _ l0 _ _ l3 t202 _ ?side1 ?side2 ?side3 ?side4 A6.out).mono ?_); (case side1 => repeat (first | exact HR0.out | (with_reducible refine Kd.C_alloc ?_ _) | (with_reducible refine Kd.C_drewN ?_ _) | (with_reducible refine Kd.C_drew ?_))); (case side2 => exact HC0.out); (case side3 => repeat (first | exact HR3.out | (with_reducible refine Kd.C_alloc ?_ _) | (with_reducible refine Kd.C_drewN ?_ _) | (with_reducible refine Kd.C_drew ?_))); (case side4 => exact HC3.out); rintro e w' ⟨rfl, ⟨nd, rfl⟩⟩; refine ⟨_, rfl, ?_⟩))
    go_ret
    exact ⟨by first | rfl | (simp; done) | (simp [*]; done), by repeat (first | exact Drawn0.refl _ | apply Drawn0.step)⟩
end Go.Proofs.Ytipjnfljkknmgaa.Q
namespace Go.Proofs.Ytipjnfljkknmgaa.Q
open Go.RowKit Go.Proofs.YtipjnfljkknmgaaW.PrintWords Go.Proofs.YtipjnfljkknmgaaW.PrintLast Go.Proofs.YtipjnfljkknmgaaW.PrintMore
attribute [local go_sem] max2_int min2_int max_two min_two max_three min_three max_four min_four   -- for this text's walks alone
set_option linter.unusedVariables false
set_option linter.unusedSimpArgs false
def scrivenerref14_Acked.f (k : Nat) (l0 : List (S32)) (a1 : Int) (l2 : List (S32)) : Option (Bool) := if a1 > 0 then ((scrivenerref14_Among.f k l0 l2).bind fun t201 => (some (decide (t201 ≥ a1)))) else (some false)
set_option maxHeartbeats 8000000 in
set_option maxRecDepth 100000 in
theorem scrivenerref14_Acked.calls (k : Nat) (A0 : Option Addr) (c0 : Nat) (l0 : List (S32)) (a1 : Int) (A2 : Option Addr) (c2 : Nat) (l2 : List (S32)) (r : Bool) (w : World) (hr0 : Kd.C k32 w A0 l0.length l0) (hc0 : l0.length ≤ c0) (hr2 : Kd.C k32 w A2 l2.length l2) (hc2 : l2.length ≤ c2) (h : scrivenerref14_Acked.f k l0 a1 l2 = some r) :
    Calls Try.prog 18 #[.slice A0 l0.length c0, .int .i64 a1, .slice A2 l2.length c2] w fun e w' => e = .returned (.bool r) ∧ Drawn0 w w' := by
  have HR0 := Aside0.mk hr0
  have HC0 := Aside0.mk hc0
  clear hr0 hc0
  have HR2 := Aside0.mk hr2
  have HC2 := Aside0.mk hc2
  clear hr2 hc2
  have H : (if a1 > 0 then ((scrivenerref14_Among.f k l0 l2).bind fun t201 => (some (decide (t201 ≥ a1)))) else (some false)) = some r := h
  clear h
  by_cases c4 : a1 > 0
  · rw [if_pos c4] at H
    have c4b0 : decide (0 < a1) = true := decide_eq_true c4
    clear c4
    replace H := Option.bind_eq_some_iff.mp H
    obtain ⟨t201, A50, H⟩ := H
    replace H : (some (decide (t201 ≥ a1))) = some r := H
    have A5 := Aside0.mk A50
    clear A50
    obtain rfl := Option.some.inj H
    go_enter Try.func18, Try.ntmps18
    go_wp2_with (first | (go_at_call 14; (with_reducible refine (scrivenerref14_Among.calls k _ _ l0 _ _ l2 t201 _ ?side1 ?side2 ?side3 ?side4 A5.out).mono ?_); (case side1 => repeat (first | exact HR0.out | (with_reducible refine Kd.C_alloc ?_ _) | (with_reducible refine Kd.C_drewN ?_ _) | (with_reducible refine Kd.C_drew ?_))); (case side2 => exact HC0.out); (case side3 => repeat (first | exact HR2.out | (with_reducible refine Kd.C_alloc ?_ _) | (with_reducible refine Kd.C_drewN ?_ _) | (with_reducible refine Kd.C_drew ?_))); (case side4 => exact HC2.out); rintro e w' ⟨rfl, ⟨nd, rfl⟩⟩))
    go_ret
    exact ⟨by first | rfl | (simp; done) | (simp [*]; done), by repeat (first | exact Drawn0.refl _ | apply Drawn0.step)⟩
  · rw [if_neg c4] at H
    have c4b0 : decide (0 < a1) = false := decide_eq_false c4
    clear c4
    obtain rfl := Option.some.inj H
    go_enter Try.func18, Try.ntmps18
    go_wp2
    go_ret
    exact ⟨by first | rfl | (simp; done) | (simp [*]; done), by repeat (first | exact Drawn0.refl _ | apply Drawn0.step)⟩
end Go.Proofs.Ytipjnfljkknmgaa.Q
namespace Go.Proofs.Ytipjnfljkknmgaa.Q
open Go.RowKit Go.Proofs.YtipjnfljkknmgaaW.PrintWords Go.Proofs.YtipjnfljkknmgaaW.PrintLast Go.Proofs.YtipjnfljkknmgaaW.PrintMore
attribute [local go_sem] max2_int min2_int max_two min_two max_three min_three max_four min_four   -- for this text's walks alone
set_option linter.unusedVariables false
set_option linter.unusedSimpArgs false
def scrivenerref14_Frag.l0 : Nat → List (S25) → Int → Int → Option (Int)
  | 0, _, _, _ => none
  | k + 1, x0, x1, x5 => if x5 ≥ 0 then (if 0 ≤ x5 then (if x5 < (x0.length : Int) then (if ((rd_T25 x0 x5).f0) ≤ x1 then (some x5) else (scrivenerref14_Frag.l0 k x0 x1 (wrap64 (x5 - 1)))) else (none)) else (none)) else (some (-1))
def scrivenerref14_Frag.f (k : Nat) (l0 : List (S25)) (a1 : Int) : Option (Int) := scrivenerref14_Frag.l0 k l0 a1 (wrap64 ((l0.length : Int) - 1))
set_option maxHeartbeats 8000000 in
set_option maxRecDepth 100000 in
theorem scrivenerref14_Frag.calls (k : Nat) (A0 : Option Addr) (c0 : Nat) (l0 : List (S25)) (a1 : Int) (r : Int) (w : World) (hr0 : Kd.C k25 w A0 l0.length l0) (hc0 : l0.length ≤ c0) (h : scrivenerref14_Frag.f k l0 a1 = some r) :
    Calls Try.prog 55 #[.slice A0 l0.length c0, .int .u64 a1] w fun e w' => e = .returned (.int .i64 r) ∧ Drawn0 w w' := by
  have HR0 := Aside0.mk hr0
  have HC0 := Aside0.mk hc0
  clear hr0 hc0
  have H : (scrivenerref14_Frag.l0 k l0 a1 (wrap64 ((l0.length : Int) - 1))) = some r := h
  clear h
  have H' := Aside0.mk H
  clear H
  go_enter Try.func55, Try.ntmps55
  go_wp2
  go_loopg [5] k (fun kq v5 w' => ∃ (x5_1 : Int), v5 = .int .i64 x5_1 ∧ Aside0 (scrivenerref14_Frag.l0 kq l0 a1 x5_1 = some r) ∧ Aside0 (kq ≤ k) ∧ Drawn0 w w')
  case atStart => exact ⟨(wrap64 ((l0.length : Int) - 1)), (by first | rfl | (simp; done) | (simp [*]; done)), H', ⟨Nat.le_refl _⟩, by repeat (first | exact Drawn0.refl _ | apply Drawn0.step)⟩
  case round =>
    clear H'
    try clear p2
    obtain ⟨x5_1, rfl, HA, HK1, ⟨m1, rfl⟩⟩ := hrel
    cases gk with
    | zero => exact absurd HA.out (by simp [scrivenerref14_Frag.l0])
    | succ k1 =>
      have H := HA.out
      clear HA
      simp only [scrivenerref14_Frag.l0] at H
      by_cases c3 : x5_1 ≥ 0
      · rw [if_pos c3] at H
        have c3b0 : decide (0 ≤ x5_1) = true := decide_eq_true c3
        clear c3
        by_cases c4 : 0 ≤ x5_1
        · rw [if_pos c4] at H
          have c4b0 : decide (0 ≤ x5_1) = true := decide_eq_true c4
          clear c4
          by_cases c5 : x5_1 < (l0.length : Int)
          · rw [if_pos c5] at H
            have c5b0 : decide (x5_1 < (l0.length : Int)) = true := decide_eq_true c5
            clear c5
            by_cases c6 : ((rd_T25 l0 x5_1).f0) ≤ a1
            · rw [if_pos c6] at H
              have c6b0 : decide (((rd_T25 l0 x5_1).f0) ≤ a1) = true := decide_eq_true c6
              clear c6
              obtain rfl := Option.some.inj H
              have p203 : 0 ≤ (x5_1 : Int) := of_decide_eq_true (by first | (with_reducible assumption) | assumption)
              have q203 : x5_1 < (l0.length : Int) := of_decide_eq_true (by first | (with_reducible assumption) | assumption)
              obtain ⟨ad203, A203_1, c203_1, e203, hx203_0, hx203_1, hl203_1, hi203_1⟩ := at_T25 HR0.out x5_1 p203 q203
              cases e203
              have HR203_1 := Aside0.mk hi203_1
              have HC203_1 := Aside0.mk hl203_1
              clear hi203_1 hl203_1
              replace p203 := eq_true p203
              replace q203 := eq_true q203
              go_wp2
              go_ret
              exact ⟨by first | rfl | (simp; done) | (simp [*]; done), by repeat (first | exact Drawn0.refl _ | apply Drawn0.step)⟩
            · rw [if_neg c6] at H
              have c6b0 : decide (((rd_T25 l0 x5_1).f0) ≤ a1) = false := decide_eq_false c6
              clear c6
              have H' := Aside0.mk H
              clear H
              have p203 : 0 ≤ (x5_1 : Int) := of_decide_eq_true (by first | (with_reducible assumption) | assumption)
              have q203 : x5_1 < (l0.length : Int) := of_decide_eq_true (by first | (with_reducible assumption) | assumption)
              obtain ⟨ad203, A203_1, c203_1, e203, hx203_0, hx203_1, hl203_1, hi203_1⟩ := at_T25 HR0.out x5_1 p203 q203
              cases e203
              have HR203_1 := Aside0.mk hi203_1
              have HC203_1 := Aside0.mk hl203_1
              clear hi203_1 hl203_1
              replace p203 := eq_true p203
              replace q203 := eq_true q203
              go_wp2
              go_roundg k1
              case measure => have := HK1.out; omega
              case rel => exact ⟨(wrap64 (x5_1 - 1)), (by first | rfl | (simp; done) | (simp [*]; done)), H', ⟨by have := HK1.out; omega⟩, by repeat (first | exact Drawn0.refl _ | apply Drawn0.step)⟩
          · rw [if_neg c5] at H
            exact absurd H (by simp)
        · rw [if_neg c4] at H
          exact absurd H (by simp)
      · rw [if_neg c3] at H
        have c3b0 : decide (0 ≤ x5_1) = false := decide_eq_false c3
        clear c3
        obtain rfl := Option.some.inj H
        go_wp2
        go_ret
        exact ⟨by first | rfl | (simp; done) | (simp [*]; done), by repeat (first | exact Drawn0.refl _ | apply Drawn0.step)⟩
end Go.Proofs.Ytipjnfljkknmgaa.Q
