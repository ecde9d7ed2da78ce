/- Whatever the input, scrivenerlaw14.StripePicks answers true and leaves its arguments as they were; there is no condition beyond the given row's own. -/
import Derived.Test.YtipjnfljkknmgaaRows
import Derived.Test.YtipjnfljkknmgaaCStripePicksp7
import Derived.Test.YtipjnfljkknmgaaCStripePicksp10
import Derived.WalkKit
import Derived.ProofKit
import Derived.OpenShut
import Derived.ShutString
import Derived.ChangeOld
import Derived.Below
import Derived.SizedLaws
import Derived.Carry
namespace Go.Proofs.Ytipjnfljkknmgaa.stripePicks
open Go.ChangeShapes Go.WideShapes Go.ChangeAt Go.ChangeMaps Go.RowKit Go.Proofs.Ytipjnfljkknmgaa.Q Go.Proofs.YtipjnfljkknmgaaW.PrintWords
set_option linter.unusedVariables false
theorem own : ownKnob Try.prog.godebug = none := by kernel_rfl
theorem laidOut : laidOutB Try.prog = true := by kernel_rfl
set_option maxRecDepth 100000 in
theorem lifted (os : Os) (started : os.Started) (H : Type) (enc : TypeId × Value → H) :
    ReturnsInHanded {} Try.checked os 7 .any (Rows.stripePicksSpec.pre6 enc Try.prog Try.f7 Rows.stripePicksRow.domain false) (Rows.stripePicksSpec.post enc Try.prog Try.f7 false true false false) := by
  refine returnsInHanded_of_change_sized (C := Try.checked) own started (by kernel_rfl) Try.func7
    (ChangeSpec.witness6 (enc := enc) (C := Try.checked) false ⟨#[], #[.slice none 0 0, .int .i64 0, .int .i64 0, .slice none 0 0, .agg #[.int .u64 0, .slice none 0 0], .agg #[.int .i64 0, .int .u64 0], .agg #[.int .i64 0, .int .u64 0]], []⟩ 8 (by kernel_rfl) (by kernel_rfl) (by kernel_rfl) (by kernel_rfl)) ?_
  intro W base args ds gs before hval0 hW hcnd hsz0 _
  have hsz : (DataW.weightsEach Try.prog (Try.f7.params.toList ++ Rows.stripePicksSpec.plain.varTypes Try.prog) (ds ++ gs)).all (· ≤ reachBytes) = true := hsz0
  have hval : ∀ (j : Nat) t v, Try.f7.params[j]? = some t → args[j]? = some v → Value.okWide Try.prog W .any base t v := hval0
  have hW' := hW
  obtain ⟨p, q, hA0, hV, rfl, hfz, hnd⟩ := hW
  have hA : DataW.TrodAll enc Try.prog W 0 (fun _ => true) true Try.f7.params.toList args.toList ds p := hA0
  rw [Try.params7] at hA hval hsz
  obtain ⟨v0, vs0, d0, ds0, p0, q0, hargs, rfl, rfl, h0, r0⟩ := trodAll_cons hA
  obtain ⟨v1, vs1, d1, ds1, p1, q1, rfl, rfl, rfl, h1, r1⟩ := trodAll_cons r0
  obtain ⟨v2, vs2, d2, ds2, p2, q2, rfl, rfl, rfl, h2, r2⟩ := trodAll_cons r1
  obtain ⟨v3, vs3, d3, ds3, p3, q3, rfl, rfl, rfl, h3, r3⟩ := trodAll_cons r2
  obtain ⟨v4, vs4, d4, ds4, p4, q4, rfl, rfl, rfl, h4, r4⟩ := trodAll_cons r3
  obtain ⟨v5, vs5, d5, ds5, p5, q5, rfl, rfl, rfl, h5, r5⟩ := trodAll_cons r4
  obtain ⟨v6, vs6, d6, ds6, p6, q6, rfl, rfl, rfl, h6, r6⟩ := trodAll_cons r5
  obtain ⟨rfl, rfl, rfl⟩ := trodAll_nil r6
  obtain rfl : args = #[v0, v1, v2, v3, v4, v5, v6] := by cases args; simp_all
  obtain ⟨rfl, rfl⟩ := trodVars_none hV
  have k0 := h0
  have lt0 : ∀ x ∈ p0, x.block < W.heap.size := by obtain ⟨m, hm⟩ := k0; exact DataW.trod_lt m _ _ _ hm
  obtain ⟨A0, c0, l0, rfl, s0, y0, w0⟩ := open_row (B := 16) Try.underlying23 (by kernel_rfl) opens_32 heap_32 32 (hval 0 23 v0 rfl rfl) h0 (weights_of hsz (j := 0) (t := 23) rfl rfl)
  obtain ⟨a1, rfl, rfl, rfl, w1⟩ := open_int Try.underlying3 (hval 1 3 v1 rfl rfl) h1
  have b1 : -9223372036854775808 ≤ a1 ∧ a1 ≤ 9223372036854775807 := by have z := w1; simp [Lit.wf, IntKind.min, IntKind.max, IntKind.signed, IntKind.bits] at z; omega
  obtain ⟨a2, rfl, rfl, rfl, w2⟩ := open_int Try.underlying3 (hval 2 3 v2 rfl rfl) h2
  have b2 : -9223372036854775808 ≤ a2 ∧ a2 ≤ 9223372036854775807 := by have z := w2; simp [Lit.wf, IntKind.min, IntKind.max, IntKind.signed, IntKind.bits] at z; omega
  have k3 := h3
  have lt3 : ∀ x ∈ p3, x.block < W.heap.size := by obtain ⟨m, hm⟩ := k3; exact DataW.trod_lt m _ _ _ hm
  obtain ⟨A3, c3, l3, rfl, s3, y3, w3⟩ := open_row (B := 8) Try.underlying46 (by kernel_rfl) (opens_i64 Try.underlying3 (by kernel_rfl)) (Kd.heap_int _) 3 (hval 3 46 v3 rfl rfl) h3 (weights_of hsz (j := 3) (t := 46) rfl rfl)
  have k4 := h4
  have lt4 : ∀ x ∈ p4, x.block < W.heap.size := by obtain ⟨m, hm⟩ := k4; exact DataW.trod_lt m _ _ _ hm
  obtain ⟨cs4, x4, rfl, k4_, w4⟩ := open_K Try.underlying25 opens_25 (hval 4 25 v4 rfl rfl) h4 (weights_of hsz (j := 4) (t := 25) rfl rfl)
  obtain ⟨A4_1, c4_1, rfl, m4_1, g4_1⟩ := k25_open k4_
  have s4_1 : Kd.V k32 32 W W.heap.size (fun _ => True) (.slice A4_1 x4.f1.length c4_1) x4.f1 := ⟨_, _, rfl, m4_1, heap_F heap_32 g4_1⟩
  have k5 := h5
  have lt5 : ∀ x ∈ p5, x.block < W.heap.size := by obtain ⟨m, hm⟩ := k5; exact DataW.trod_lt m _ _ _ hm
  obtain ⟨cs5, x5, rfl, k5_, w5⟩ := open_K Try.underlying32 opens_32 (hval 5 32 v5 rfl rfl) h5 (weights_of hsz (j := 5) (t := 32) rfl rfl)
  obtain rfl := k32_open k5_
  have k6 := h6
  have lt6 : ∀ x ∈ p6, x.block < W.heap.size := by obtain ⟨m, hm⟩ := k6; exact DataW.trod_lt m _ _ _ hm
  obtain ⟨cs6, x6, rfl, k6_, w6⟩ := open_K Try.underlying32 opens_32 (hval 6 32 v6 rfl rfl) h6 (weights_of hsz (j := 6) (t := 32) rfl rfl)
  obtain rfl := k32_open k6_
  clear hA0 hval0 hsz0 hsz
  obtain ⟨K, hK⟩ : Ev (fun k => scrivenerlaw14_StripePicks.f k l0 a1 a2 l3 x4.f0 x4.f1 x5.f0 x5.f1 x6.f0 x6.f1) true := by
    exact picks_ev _ _ _ _ _ _ _ _ _ _ (by have := w4.2.1; omega) (by have := y3; omega)
  refine (scrivenerlaw14_StripePicks.calls K _ A0 c0 l0 a1 a2 A3 c3 l3 x4.f0 _ A4_1 c4_1 x4.f1 x5.f0 x5.f1 x6.f0 x6.f1 true W s0 (Kd.V_reads' s3).2.2 (Kd.V_reads' s3).2.1 s4_1 (hK K (Nat.le_refl _)) rfl).mono fun e W' ⟨he, bel⟩ => ?_
  subst he
  exact ⟨_, rfl, _, _, _, [], _, [], hW', trodAll_mk1 (shut_bool Try.underlying4 _), (trodAll_cons_mk (Below.trod laidOut (by kernel_rfl) (of_decide_eq_true (by kernel_rfl)) k0 bel lt0) (trodAll_cons_mk (shut_int Try.underlying3 w1) (trodAll_cons_mk (shut_int Try.underlying3 w2) (trodAll_cons_mk (Below.trod laidOut (by kernel_rfl) (of_decide_eq_true (by kernel_rfl)) k3 bel lt3) (trodAll_cons_mk (Below.trod laidOut (by kernel_rfl) (of_decide_eq_true (by kernel_rfl)) k4 bel lt4) (trodAll_cons_mk (Below.trod laidOut (by kernel_rfl) (of_decide_eq_true (by kernel_rfl)) k5 bel lt5) (trodAll_cons_mk (Below.trod laidOut (by kernel_rfl) (of_decide_eq_true (by kernel_rfl)) k6 bel lt6) trodAll_mk0))))))), rfl, bel.frame _, fun h => by cases h⟩
theorem over : Rows.stripePicksRow.holds Try.pinned (OpenSpec.ofChange Rows.stripePicksSpec) :=
  OpenClaim.holds_of_wide 7 Try.f7 rfl rfl rfl rfl rfl rfl rfl ⟨rfl, rfl, rfl, rfl, rfl⟩ rfl rfl rfl rfl rfl (by kernel_rfl) Try.func7 (by kernel_rfl)
    (of_decide_eq_true (by kernel_rfl)) (by unfold Func.isWrapper; first | (rw [if_pos (by decide +kernel)]; kernel_rfl) | (rw [if_neg (by decide +kernel)]; exact ⟨rfl, rfl⟩))
    (fun os started H enc _ => lifted os started H enc)
theorem proved : Rows.StripePicksSaid := over
end Go.Proofs.Ytipjnfljkknmgaa.stripePicks
namespace Go.Proofs.Ytipjnfljkknmgaa
/-- The row, under a short name, for the claim. -/
theorem stripePicks_holds : Rows.StripePicksSaid := stripePicks.proved
end Go.Proofs.Ytipjnfljkknmgaa
