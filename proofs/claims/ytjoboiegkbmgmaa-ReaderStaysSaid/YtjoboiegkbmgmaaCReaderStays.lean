/- For every call of the law ReaderStays that the statement's domain allows, the law answers true: a reader that is done stays as it is, asks at most one place at a time, and asks a place of its set. -/
import Derived.Test.YtjoboiegkbmgmaaRows
import Derived.Test.YtjoboiegkbmgmaaCReaderStaysp2
import Derived.Test.YtjoboiegkbmgmaaCReaderStaysp5
import Derived.WalkKit
import Derived.ProofKit
import Derived.OpenShut
import Derived.ShutString
import Derived.ChangeOld
import Derived.Below
import Derived.SizedLaws
import Derived.Carry
namespace Go.Proofs.Ytjoboiegkbmgmaa.readerStays
open Go.ChangeShapes Go.WideShapes Go.ChangeAt Go.ChangeMaps Go.RowKit Go.AM Go.Proofs.Try
set_option linter.unusedVariables false
theorem own : ownKnob Try.prog.godebug = none := by kernel_rfl
theorem laidOut : laidOutB Try.prog = true := by kernel_rfl
set_option maxRecDepth 100000 in
theorem lifted (os : Os) (started : os.Started) (H : Type) (enc : TypeId × Value → H) :
    ReturnsInHanded {} Try.checked os 4 .any (Rows.readerStaysSpec.pre6 enc Try.prog Try.f4 Rows.readerStaysRow.domain false) (Rows.readerStaysSpec.post enc Try.prog Try.f4 false true false false) := by
  refine returnsInHanded_of_change_sized (C := Try.checked) own started (by kernel_rfl) Try.func4
    (ChangeSpec.witness6 (enc := enc) (C := Try.checked) false ⟨#[], #[.agg #[.int .u64 0, .int .i64 0, .int .i64 0, .slice none 0 0, .int .i64 0, .int .u64 0], .int .u64 0, .int .u64 0, .int .u64 0, .slice none 0 0], []⟩ 8 (by kernel_rfl) (by kernel_rfl) (by kernel_rfl) (by kernel_rfl)) ?_
  intro W base args ds gs before hval0 hW hcnd hsz0 _
  have hsz : (DataW.weightsEach Try.prog (Try.f4.params.toList ++ Rows.readerStaysSpec.plain.varTypes Try.prog) (ds ++ gs)).all (· ≤ reachBytes) = true := hsz0
  have hval : ∀ (j : Nat) t v, Try.f4.params[j]? = some t → args[j]? = some v → Value.okWide Try.prog W .any base t v := hval0
  have hW' := hW
  obtain ⟨p, q, hA0, hV, rfl, hfz, hnd⟩ := hW
  have hA : DataW.TrodAll enc Try.prog W 0 (fun _ => true) true Try.f4.params.toList args.toList ds p := hA0
  rw [Try.params4] at hA hval hsz
  obtain ⟨v0, vs0, d0, ds0, p0, q0, hargs, rfl, rfl, h0, r0⟩ := trodAll_cons hA
  obtain ⟨v1, vs1, d1, ds1, p1, q1, rfl, rfl, rfl, h1, r1⟩ := trodAll_cons r0
  obtain ⟨v2, vs2, d2, ds2, p2, q2, rfl, rfl, rfl, h2, r2⟩ := trodAll_cons r1
  obtain ⟨v3, vs3, d3, ds3, p3, q3, rfl, rfl, rfl, h3, r3⟩ := trodAll_cons r2
  obtain ⟨v4, vs4, d4, ds4, p4, q4, rfl, rfl, rfl, h4, r4⟩ := trodAll_cons r3
  obtain ⟨rfl, rfl, rfl⟩ := trodAll_nil r4
  obtain rfl : args = #[v0, v1, v2, v3, v4] := by cases args; simp_all
  obtain ⟨rfl, rfl⟩ := trodVars_none hV
  have k0 := h0
  have lt0 : ∀ x ∈ p0, x.block < W.heap.size := by obtain ⟨m, hm⟩ := k0; exact DataW.trod_lt m _ _ _ hm
  obtain ⟨x0, e0, w0⟩ := openA opL encL (fun _ => rfl) (.inl ⟨by obtain ⟨cs, e, _⟩ := okWide_struct Try.underlying25 (hval 0 25 v0 rfl rfl); exact ⟨cs, e⟩, fun _ => rfl⟩) h0 (weightsA_of hsz (j := 0) (t := 25) rfl rfl)
  obtain ⟨a1, rfl, rfl, rfl, w1⟩ := open_int Try.underlying22 (hval 1 22 v1 rfl rfl) h1
  have b1 : 0 ≤ a1 ∧ a1 < 18446744073709551616 := by have z := w1; simp [Lit.wf, IntKind.min, IntKind.max, IntKind.signed, IntKind.bits] at z; omega
  obtain ⟨a2, rfl, rfl, rfl, w2⟩ := open_int Try.underlying22 (hval 2 22 v2 rfl rfl) h2
  have b2 : 0 ≤ a2 ∧ a2 < 18446744073709551616 := by have z := w2; simp [Lit.wf, IntKind.min, IntKind.max, IntKind.signed, IntKind.bits] at z; omega
  obtain ⟨a3, rfl, rfl, rfl, w3⟩ := open_int Try.underlying22 (hval 3 22 v3 rfl rfl) h3
  have b3 : 0 ≤ a3 ∧ a3 < 18446744073709551616 := by have z := w3; simp [Lit.wf, IntKind.min, IntKind.max, IntKind.signed, IntKind.bits] at z; omega
  have k4 := h4
  have lt4 : ∀ x ∈ p4, x.block < W.heap.size := by obtain ⟨m, hm⟩ := k4; exact DataW.trod_lt m _ _ _ hm
  obtain ⟨x4, e4, w4⟩ := openA opLCa sCa (fun _ => rfl) (.inr ⟨by obtain ⟨a, l, c, e⟩ := okWide_slice Try.underlying26 (hval 4 26 v4 rfl rfl); rw [e]; rfl, fun _ => rfl⟩) h4 (weightsA_of hsz (j := 4) (t := 26) rfl rfl)
  clear hA0 hval0 hsz0 hsz
  have hsem : SemC Try.prog 4 [encL x0, .val (.int .u64 a1), .val (.int .u64 a2), .val (.int .u64 a3), sCa x4] (fun _ => none) (fun r _ _ => r = abool true) := by
    exact staysW_spec x0 a1 a2 a3 x4 _ _ (by have := w0.2.2.2.1.1; omega) (by have := w4.1; omega) (fun f hf => (w0.2.2.2.1.2 f hf).1.1) (by omega) (fun c hc => ⟨by have := (w4.2 c hc).2.2.2.2.2.2.2.1.1; omega, fun f hf => ((w4.2 c hc).2.2.2.2.2.2.2.1.2 f hf).1.1⟩) rfl
  refine (SemC.run hsem rfl (fun i hi => match i, hi with | 0, _ => e0 | 1, _ => .val _ rfl | 2, _ => .val _ rfl | 3, _ => .val _ rfl | 4, _ => e4)).mono fun e W' ⟨v, E', ι', r, h', N, he, bel, _, hrel, hq⟩ => ?_
  subst hq
  obtain rfl := (rel_val hrel).1
  subst he
  exact ⟨_, rfl, _, _, _, [], _, [], hW', trodAll_mk1 (shut_bool Try.underlying4 _), (trodAll_cons_mk (Below.trod laidOut (by kernel_rfl) (of_decide_eq_true (by kernel_rfl)) k0 bel lt0) (trodAll_cons_mk (shut_int Try.underlying22 w1) (trodAll_cons_mk (shut_int Try.underlying22 w2) (trodAll_cons_mk (shut_int Try.underlying22 w3) (trodAll_cons_mk (Below.trod laidOut (by kernel_rfl) (of_decide_eq_true (by kernel_rfl)) k4 bel lt4) trodAll_mk0))))), rfl, bel.frame _, fun h => by cases h⟩
theorem over : Rows.readerStaysRow.holds Try.pinned (OpenSpec.ofChange Rows.readerStaysSpec) :=
  OpenClaim.holds_of_wide 4 Try.f4 rfl rfl rfl rfl rfl rfl rfl ⟨rfl, rfl, rfl, rfl, rfl⟩ rfl rfl rfl rfl rfl (by kernel_rfl) Try.func4 (by kernel_rfl)
    (of_decide_eq_true (by kernel_rfl)) (by unfold Func.isWrapper; first | (rw [if_pos (by decide +kernel)]; kernel_rfl) | (rw [if_neg (by decide +kernel)]; exact ⟨rfl, rfl⟩))
    (fun os started H enc _ => lifted os started H enc)
theorem proved : Rows.ReaderStaysSaid := over
end Go.Proofs.Ytjoboiegkbmgmaa.readerStays
namespace Go.Proofs.Ytjoboiegkbmgmaa
/-- The row, under a short name, for the claim. -/
theorem readerStays_holds : Rows.ReaderStaysSaid := readerStays.proved
end Go.Proofs.Ytjoboiegkbmgmaa
