/- Whatever the input, scrivenerlaw14.StripeMore answers true and leaves its arguments as they were; there is no condition beyond the given row's own. -/
import Derived.Test.YtipjnfljkknmgaaRows
import Derived.Test.YtipjnfljkknmgaaCStripeMorep6
import Derived.Test.YtipjnfljkknmgaaCStripeMorep7
import Derived.Test.YtipjnfljkknmgaaCStripeMorep10
import Derived.WalkKit
import Derived.ProofKit
import Derived.OpenShut
import Derived.ShutString
import Derived.ChangeOld
import Derived.Below
import Derived.SizedLaws
import Derived.Carry
namespace Go.Proofs.Ytipjnfljkknmgaa.stripeMore
open Go.ChangeShapes Go.WideShapes Go.ChangeAt Go.ChangeMaps Go.RowKit Go.Proofs.Ytipjnfljkknmgaa.Q Go.Proofs.YtipjnfljkknmgaaW.PrintWords
set_option linter.unusedVariables false
theorem own : ownKnob Try.prog.godebug = none := by kernel_rfl
theorem laidOut : laidOutB Try.prog = true := by kernel_rfl
set_option maxRecDepth 100000 in
theorem lifted (os : Os) (started : os.Started) (H : Type) (enc : TypeId × Value → H) :
    ReturnsInHanded {} Try.checked os 6 .any (Rows.stripeMoreSpec.pre6 enc Try.prog Try.f6 Rows.stripeMoreRow.domain false) (Rows.stripeMoreSpec.post enc Try.prog Try.f6 false true false false) := by
  refine returnsInHanded_of_change_sized (C := Try.checked) own started (by kernel_rfl) Try.func6
    (ChangeSpec.witness6 (enc := enc) (C := Try.checked) false ⟨#[], #[.agg #[.int .u64 0, .slice none 0 0], .slice none 0 0, .int .i64 0, .int .i64 0, .slice none 0 0, .agg #[.int .i64 0, .int .u64 0]], []⟩ 8 (by kernel_rfl) (by kernel_rfl) (by kernel_rfl) (by kernel_rfl)) ?_
  intro W base args ds gs before hval0 hW hcnd hsz0 _
  have hsz : (DataW.weightsEach Try.prog (Try.f6.params.toList ++ Rows.stripeMoreSpec.plain.varTypes Try.prog) (ds ++ gs)).all (· ≤ reachBytes) = true := hsz0
  have hval : ∀ (j : Nat) t v, Try.f6.params[j]? = some t → args[j]? = some v → Value.okWide Try.prog W .any base t v := hval0
  have hW' := hW
  obtain ⟨p, q, hA0, hV, rfl, hfz, hnd⟩ := hW
  have hA : DataW.TrodAll enc Try.prog W 0 (fun _ => true) true Try.f6.params.toList args.toList ds p := hA0
  rw [Try.params6] at hA hval hsz
  obtain ⟨v0, vs0, d0, ds0, p0, q0, hargs, rfl, rfl, h0, r0⟩ := trodAll_cons hA
  obtain ⟨v1, vs1, d1, ds1, p1, q1, rfl, rfl, rfl, h1, r1⟩ := trodAll_cons r0
  obtain ⟨v2, vs2, d2, ds2, p2, q2, rfl, rfl, rfl, h2, r2⟩ := trodAll_cons r1
  obtain ⟨v3, vs3, d3, ds3, p3, q3, rfl, rfl, rfl, h3, r3⟩ := trodAll_cons r2
  obtain ⟨v4, vs4, d4, ds4, p4, q4, rfl, rfl, rfl, h4, r4⟩ := trodAll_cons r3
  obtain ⟨v5, vs5, d5, ds5, p5, q5, rfl, rfl, rfl, h5, r5⟩ := trodAll_cons r4
  obtain ⟨rfl, rfl, rfl⟩ := trodAll_nil r5
  obtain rfl : args = #[v0, v1, v2, v3, v4, v5] := by cases args; simp_all
  obtain ⟨rfl, rfl⟩ := trodVars_none hV
  have k0 := h0
  have lt0 : ∀ x ∈ p0, x.block < W.heap.size := by obtain ⟨m, hm⟩ := k0; exact DataW.trod_lt m _ _ _ hm
  obtain ⟨cs0, x0, rfl, k0_, w0⟩ := open_K Try.underlying25 opens_25 (hval 0 25 v0 rfl rfl) h0 (weights_of hsz (j := 0) (t := 25) rfl rfl)
  obtain ⟨A0_1, c0_1, rfl, m0_1, g0_1⟩ := k25_open k0_
  have s0_1 : Kd.V k32 32 W W.heap.size (fun _ => True) (.slice A0_1 x0.f1.length c0_1) x0.f1 := ⟨_, _, rfl, m0_1, heap_F heap_32 g0_1⟩
  have k1 := h1
  have lt1 : ∀ x ∈ p1, x.block < W.heap.size := by obtain ⟨m, hm⟩ := k1; exact DataW.trod_lt m _ _ _ hm
  obtain ⟨A1, c1, l1, rfl, s1, y1, w1⟩ := open_row (B := 16) Try.underlying23 (by kernel_rfl) opens_32 heap_32 32 (hval 1 23 v1 rfl rfl) h1 (weights_of hsz (j := 1) (t := 23) rfl rfl)
  obtain ⟨a2, rfl, rfl, rfl, w2⟩ := open_int Try.underlying3 (hval 2 3 v2 rfl rfl) h2
  have b2 : -9223372036854775808 ≤ a2 ∧ a2 ≤ 9223372036854775807 := by have z := w2; simp [Lit.wf, IntKind.min, IntKind.max, IntKind.signed, IntKind.bits] at z; omega
  obtain ⟨a3, rfl, rfl, rfl, w3⟩ := open_int Try.underlying3 (hval 3 3 v3 rfl rfl) h3
  have b3 : -9223372036854775808 ≤ a3 ∧ a3 ≤ 9223372036854775807 := by have z := w3; simp [Lit.wf, IntKind.min, IntKind.max, IntKind.signed, IntKind.bits] at z; omega
  have k4 := h4
  have lt4 : ∀ x ∈ p4, x.block < W.heap.size := by obtain ⟨m, hm⟩ := k4; exact DataW.trod_lt m _ _ _ hm
  obtain ⟨A4, c4, l4, rfl, s4, y4, w4⟩ := open_row (B := 16) Try.underlying23 (by kernel_rfl) opens_32 heap_32 32 (hval 4 23 v4 rfl rfl) h4 (weights_of hsz (j := 4) (t := 23) rfl rfl)
  have k5 := h5
  have lt5 : ∀ x ∈ p5, x.block < W.heap.size := by obtain ⟨m, hm⟩ := k5; exact DataW.trod_lt m _ _ _ hm
  obtain ⟨cs5, x5, rfl, k5_, w5⟩ := open_K Try.underlying32 opens_32 (hval 5 32 v5 rfl rfl) h5 (weights_of hsz (j := 5) (t := 32) rfl rfl)
  obtain rfl := k32_open k5_
  clear hA0 hval0 hsz0 hsz
  obtain ⟨K, hK⟩ : Ev (fun k => scrivenerlaw14_StripeMore.f k x0.f0 x0.f1 l1 a2 a3 l4 x5.f0 x5.f1) true := by
    exact more_ev _ _ _ _ _ _ _ _ (by have := w0.2.1; omega)
  refine (scrivenerlaw14_StripeMore.calls K x0.f0 _ A0_1 c0_1 x0.f1 _ A1 c1 l1 a2 a3 _ A4 c4 l4 x5.f0 x5.f1 true W s0_1 s1 s4 (hK K (Nat.le_refl _)) rfl).mono fun e W' ⟨he, bel⟩ => ?_
  subst he
  exact ⟨_, rfl, _, _, _, [], _, [], hW', trodAll_mk1 (shut_bool Try.underlying4 _), (trodAll_cons_mk (Below.trod laidOut (by kernel_rfl) (of_decide_eq_true (by kernel_rfl)) k0 bel lt0) (trodAll_cons_mk (Below.trod laidOut (by kernel_rfl) (of_decide_eq_true (by kernel_rfl)) k1 bel lt1) (trodAll_cons_mk (shut_int Try.underlying3 w2) (trodAll_cons_mk (shut_int Try.underlying3 w3) (trodAll_cons_mk (Below.trod laidOut (by kernel_rfl) (of_decide_eq_true (by kernel_rfl)) k4 bel lt4) (trodAll_cons_mk (Below.trod laidOut (by kernel_rfl) (of_decide_eq_true (by kernel_rfl)) k5 bel lt5) trodAll_mk0)))))), rfl, bel.frame _, fun h => by cases h⟩
theorem over : Rows.stripeMoreRow.holds Try.pinned (OpenSpec.ofChange Rows.stripeMoreSpec) :=
  OpenClaim.holds_of_wide 6 Try.f6 rfl rfl rfl rfl rfl rfl rfl ⟨rfl, rfl, rfl, rfl, rfl⟩ rfl rfl rfl rfl rfl (by kernel_rfl) Try.func6 (by kernel_rfl)
    (of_decide_eq_true (by kernel_rfl)) (by unfold Func.isWrapper; first | (rw [if_pos (by decide +kernel)]; kernel_rfl) | (rw [if_neg (by decide +kernel)]; exact ⟨rfl, rfl⟩))
    (fun os started H enc _ => lifted os started H enc)
theorem proved : Rows.StripeMoreSaid := over
end Go.Proofs.Ytipjnfljkknmgaa.stripeMore
namespace Go.Proofs.Ytipjnfljkknmgaa
/-- The row, under a short name, for the claim. -/
theorem stripeMore_holds : Rows.StripeMoreSaid := stripeMore.proved
end Go.Proofs.Ytipjnfljkknmgaa
