/- Any fragment, of which any places are bad, renewed by any known ones, is renewed by the program as the document says; the fragment that was handed in stays. No condition but the row's own (what a machine can hold). -/
import Derived.Test.YtipjnfljkknmgaaRows
import Derived.Test.YtipjnfljkknmgaaCStripeRenewsp2
import Derived.Test.YtipjnfljkknmgaaCStripeRenewsp10
import Derived.WalkKit
import Derived.ProofKit
import Derived.OpenShut
import Derived.ShutString
import Derived.ChangeOld
import Derived.Below
import Derived.SizedLaws
import Derived.Carry
namespace Go.Proofs.Ytipjnfljkknmgaa.stripeRenews
open Go.ChangeShapes Go.WideShapes Go.ChangeAt Go.ChangeMaps Go.RowKit Go.AM Go.Proofs.Try
set_option linter.unusedVariables false
theorem own : ownKnob Try.prog.godebug = none := by kernel_rfl
theorem laidOut : laidOutB Try.prog = true := by kernel_rfl
set_option maxRecDepth 100000 in
theorem lifted (os : Os) (started : os.Started) (H : Type) (enc : TypeId × Value → H) :
    ReturnsInHanded {} Try.checked os 8 .any (Rows.stripeRenewsSpec.pre6 enc Try.prog Try.f8 Rows.stripeRenewsRow.domain false) (Rows.stripeRenewsSpec.post enc Try.prog Try.f8 false true false false) := by
  refine returnsInHanded_of_change_sized (C := Try.checked) own started (by kernel_rfl) Try.func8
    (ChangeSpec.witness6 (enc := enc) (C := Try.checked) false ⟨#[], #[.agg #[.int .u64 0, .slice none 0 0], .int .i64 0, .int .i64 0, .slice none 0 0, .slice none 0 0], []⟩ 8 (by kernel_rfl) (by kernel_rfl) (by kernel_rfl) (by kernel_rfl)) ?_
  intro W base args ds gs before hval0 hW hcnd hsz0 _
  have hsz : (DataW.weightsEach Try.prog (Try.f8.params.toList ++ Rows.stripeRenewsSpec.plain.varTypes Try.prog) (ds ++ gs)).all (· ≤ reachBytes) = true := hsz0
  have hval : ∀ (j : Nat) t v, Try.f8.params[j]? = some t → args[j]? = some v → Value.okWide Try.prog W .any base t v := hval0
  have hW' := hW
  obtain ⟨p, q, hA0, hV, rfl, hfz, hnd⟩ := hW
  have hA : DataW.TrodAll enc Try.prog W 0 (fun _ => true) true Try.f8.params.toList args.toList ds p := hA0
  rw [Try.params8] at hA hval hsz
  obtain ⟨v0, vs0, d0, ds0, p0, q0, hargs, rfl, rfl, h0, r0⟩ := trodAll_cons hA
  obtain ⟨v1, vs1, d1, ds1, p1, q1, rfl, rfl, rfl, h1, r1⟩ := trodAll_cons r0
  obtain ⟨v2, vs2, d2, ds2, p2, q2, rfl, rfl, rfl, h2, r2⟩ := trodAll_cons r1
  obtain ⟨v3, vs3, d3, ds3, p3, q3, rfl, rfl, rfl, h3, r3⟩ := trodAll_cons r2
  obtain ⟨v4, vs4, d4, ds4, p4, q4, rfl, rfl, rfl, h4, r4⟩ := trodAll_cons r3
  obtain ⟨rfl, rfl, rfl⟩ := trodAll_nil r4
  obtain rfl : args = #[v0, v1, v2, v3, v4] := by cases args; simp_all
  obtain ⟨rfl, rfl⟩ := trodVars_none hV
  have k0 := h0
  have lt0 : ∀ x ∈ p0, x.block < W.heap.size := by obtain ⟨m, hm⟩ := k0; exact DataW.trod_lt m _ _ _ hm
  obtain ⟨x0, e0, w0⟩ := openA opF encF (fun _ => rfl) (.inl ⟨by obtain ⟨cs, e, _⟩ := okWide_struct Try.underlying25 (hval 0 25 v0 rfl rfl); exact ⟨cs, e⟩, fun _ => rfl⟩) h0 (weightsA_of hsz (j := 0) (t := 25) rfl rfl)
  obtain ⟨a1, rfl, rfl, rfl, w1⟩ := open_int Try.underlying3 (hval 1 3 v1 rfl rfl) h1
  have b1 : -9223372036854775808 ≤ a1 ∧ a1 ≤ 9223372036854775807 := by have z := w1; simp [Lit.wf, IntKind.min, IntKind.max, IntKind.signed, IntKind.bits] at z; omega
  obtain ⟨a2, rfl, rfl, rfl, w2⟩ := open_int Try.underlying3 (hval 2 3 v2 rfl rfl) h2
  have b2 : -9223372036854775808 ≤ a2 ∧ a2 ≤ 9223372036854775807 := by have z := w2; simp [Lit.wf, IntKind.min, IntKind.max, IntKind.signed, IntKind.bits] at z; omega
  have k3 := h3
  have lt3 : ∀ x ∈ p3, x.block < W.heap.size := by obtain ⟨m, hm⟩ := k3; exact DataW.trod_lt m _ _ _ hm
  obtain ⟨x3, e3, w3⟩ := openA opLP sP (fun _ => rfl) (.inr ⟨by obtain ⟨a, l, c, e⟩ := okWide_slice Try.underlying23 (hval 3 23 v3 rfl rfl); rw [e]; rfl, fun _ => rfl⟩) h3 (weightsA_of hsz (j := 3) (t := 23) rfl rfl)
  have k4 := h4
  have lt4 : ∀ x ∈ p4, x.block < W.heap.size := by obtain ⟨m, hm⟩ := k4; exact DataW.trod_lt m _ _ _ hm
  obtain ⟨x4, e4, w4⟩ := openA opLP sP (fun _ => rfl) (.inr ⟨by obtain ⟨a, l, c, e⟩ := okWide_slice Try.underlying23 (hval 4 23 v4 rfl rfl); rw [e]; rfl, fun _ => rfl⟩) h4 (weightsA_of hsz (j := 4) (t := 23) rfl rfl)
  clear hA0 hval0 hsz0 hsz
  have hsem : SemC Try.prog 8 [encF x0, .val (.int .i64 a1), .val (.int .i64 a2), sP x3, sP x4] (fun _ => none) (fun r _ _ => r = abool true) := by
    obtain ⟨fi, bk⟩ := x0
    exact renews_spec fi bk a1 a2 x3 x4 _ _ rfl
  refine (SemC.run hsem rfl (fun i hi => match i, hi with | 0, _ => e0 | 1, _ => .val _ rfl | 2, _ => .val _ rfl | 3, _ => e3 | 4, _ => e4)).mono fun e W' ⟨v, E', ι', r, h', N, he, bel, _, hrel, hq⟩ => ?_
  subst hq
  obtain rfl := (rel_val hrel).1
  subst he
  exact ⟨_, rfl, _, _, _, [], _, [], hW', trodAll_mk1 (shut_bool Try.underlying4 _), (trodAll_cons_mk (Below.trod laidOut (by kernel_rfl) (of_decide_eq_true (by kernel_rfl)) k0 bel lt0) (trodAll_cons_mk (shut_int Try.underlying3 w1) (trodAll_cons_mk (shut_int Try.underlying3 w2) (trodAll_cons_mk (Below.trod laidOut (by kernel_rfl) (of_decide_eq_true (by kernel_rfl)) k3 bel lt3) (trodAll_cons_mk (Below.trod laidOut (by kernel_rfl) (of_decide_eq_true (by kernel_rfl)) k4 bel lt4) trodAll_mk0))))), rfl, bel.frame _, fun h => by cases h⟩
theorem over : Rows.stripeRenewsRow.holds Try.pinned (OpenSpec.ofChange Rows.stripeRenewsSpec) :=
  OpenClaim.holds_of_wide 8 Try.f8 rfl rfl rfl rfl rfl rfl rfl ⟨rfl, rfl, rfl, rfl, rfl⟩ rfl rfl rfl rfl rfl (by kernel_rfl) Try.func8 (by kernel_rfl)
    (of_decide_eq_true (by kernel_rfl)) (by unfold Func.isWrapper; first | (rw [if_pos (by decide +kernel)]; kernel_rfl) | (rw [if_neg (by decide +kernel)]; exact ⟨rfl, rfl⟩))
    (fun os started H enc _ => lifted os started H enc)
theorem proved : Rows.StripeRenewsSaid := over
end Go.Proofs.Ytipjnfljkknmgaa.stripeRenews
namespace Go.Proofs.Ytipjnfljkknmgaa
/-- The row, under a short name, for the claim. -/
theorem stripeRenews_holds : Rows.StripeRenewsSaid := stripeRenews.proved
end Go.Proofs.Ytipjnfljkknmgaa
