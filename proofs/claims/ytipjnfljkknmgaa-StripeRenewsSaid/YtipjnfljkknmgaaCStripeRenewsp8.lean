/- Part 8 of the proof of the row StripeRenews: written for this claim by the session and by a program of its own. -/
import Derived.Test.YtipjnfljkknmgaaCStripeRenewsp5
import Derived.Test.YtipjnfljkknmgaaCStripeRenewsp6
import Derived.Test.YtipjnfljkknmgaaCStripeRenewsp7
import Derived.Test.YtipjnfljkknmgaaCStripeRenewsp3
namespace Go.Proofs.Ytipjnfljkknmgaa.Q
open Go.RowKit Go.Proofs.YtipjnfljkknmgaaW.PrintWords Go.Proofs.YtipjnfljkknmgaaW.PrintLast Go.Proofs.YtipjnfljkknmgaaW.PrintMore
attribute [local go_sem] max2_int min2_int max_two min_two max_three min_three max_four min_four   -- for this text's walks alone
set_option linter.unusedVariables false
set_option linter.unusedSimpArgs false
attribute [local go_sem high] eqA32
def awakeP14.f (k : Nat)  : Option (Bool) := (scrivenerlaw14_three.f).bind fun bt145 => ((some (([(⟨bt145.1, bt145.2⟩ : S25)] : List (S25)) : List (S25))).bind fun y150 => ((stripe_Pick.f bt145.2 3 2 (([8] : List Int))).bind fun bt156 => ((stripe_Pick.f bt145.2 3 3 (([8] : List Int))).bind fun bt163 => ((stripe_Set.f k y150 2 3).bind fun t167 => (if 2 ≤ (bt145.2.length : Int) then ((scrivenerref14_Same.f k t167 (bt145.2.take 2)).bind fun t175 => (if t175 = true then ((stripe_Set.f k y150 2 5).bind fun t176 => ((scrivenerlaw14_place.f 9).bind fun bt179 => ((scrivenerlaw14_place.f 7).bind fun bt181 => ((scrivenerref14_Same.f k t176 (([(⟨bt179.1, bt179.2⟩ : S32), (⟨bt181.1, bt181.2⟩ : S32)] : List (S32)))).bind fun t186 => (if t186 = true then ((stripe_Set.f k y150 2 2).bind fun t187 => (if (t187.length : Int) = 0 then ((scrivenerlaw14_place.f 7).bind fun bt190 => ((stripe_Covered.f bt145.1 bt145.2 2 2 (([(⟨bt190.1, bt190.2⟩ : S32)] : List (S32)))).bind fun t195 => (if t195 = true then (some false) else ((stripe_Covered.f bt145.1 bt145.2 2 2 bt145.2).bind fun t196 => (if t196 = true then (if bt156.2 = 0 then (if (bt156.1.length : Int) = 2 then (if 1 < (bt156.1.length : Int) then ((scrivenerlaw14_place.f 9).bind fun bt198 => (if (((rd_T32 bt156.1 1).f0) == bt198.1 && (((rd_T32 bt156.1 1).f1) == bt198.2)) = true then (some (bt163.2 == 3)) else (some false))) else (none)) else (some false)) else (some false)) else (some false)))))) else (some false))) else (some false)))))) else (some false))) else (none))))))
def awakeP14.T5 : Bool × List (List Nat × List Nat) := (true, [([], []), ([0], [0]), ([], []), ([2], [2]), ([3], [3]), ([1, 4, 1], [1, 4]), ([5, 5], [5]), ([6], [6]), ([7, 6, 6], [6, 7]), ([8, 6], [6]), ([9, 6], [6]), ([9, 10, 6], [6, 9, 10]), ([8, 11, 10, 6], [6, 8, 11]), ([6, 12], [6, 12]), ([13, 12], [13]), ([14], [14]), ([15, 14, 14], [14, 15]), ([16, 14], [14, 16]), ([17, 14], [14, 17]), ([14, 18], [14, 18]), ([19, 16], [19]), ([20], [20]), ([20, 20], [20]), ([22, 20], [20, 22]), ([21, 23, 22, 20], [20, 21, 23]), ([24, 20], [20, 24]), ([20, 25], [20, 25]), ([26, 24], [26]), ([27], [27]), ([27], [27]), ([29, 27], [27, 29]), ([28, 30, 27, 27], [27, 28, 30]), ([27, 31], [27, 31]), ([32, 31], [32]), ([33], [33]), ([34, 33], [33, 34]), ([33, 35], [33, 35]), ([36, 33], [36]), ([37], [37]), ([38, 37], [37, 38]), ([39, 37], [37, 39]), ([37, 40], [37, 40]), ([41, 37], [41]), ([42], [42]), ([43, 42], [42, 43]), ([44, 42], [42, 44]), ([42, 42], [42]), ([45, 46, 42], [42, 45, 46]), ([42, 47], [42, 47]), ([48, 46], [48]), ([49], [49]), ([50, 49], [49, 50]), ([49, 51], [49, 51]), ([52, 49, 0, 1, 2, 3, 4, 5, 6, 7, 8, 9, 10, 11, 12, 13, 14, 15, 16, 17, 18, 19, 20, 21, 22, 23, 24, 25, 26, 27, 28, 29, 30, 31, 32, 33, 34, 35, 36, 37, 38, 39, 40, 41, 42, 43, 44, 45, 46, 47, 48, 49, 50, 51, 52], [52])])
def awakeP14.B5 : List Nat := [0, 1, 0, 4, 12, 31, 63, 127, 255, 511, 1023, 2047, 4095, 8191, 16383, 32767, 65535, 131071, 262143, 524287, 1048575, 2097151, 2097151, 6291455, 16777215, 33554431, 67108863, 134217727, 268435455, 268435455, 805306367, 2147483647, 4294967295, 8589934591, 17179869183, 34359738367, 68719476735, 137438953471, 274877906943, 549755813887, 1099511627775, 2199023255551, 4398046511103, 8796093022207, 17592186044415, 35184372088831, 8796093022207, 140737488355327, 281474976710655, 562949953421311, 1125899906842623, 2251799813685247, 4503599627370495, 9007199254740991]
theorem awakeP14.tab5 : rtab .any (opsOf Try.f12 5) = awakeP14.T5 := by kernel_rfl
theorem awakeP14.bits5 : waitsOk awakeP14.T5.2 awakeP14.B5 = true := by kernel_rfl
set_option maxHeartbeats 8000000 in
set_option maxRecDepth 100000 in
theorem awakeP14.calls (k : Nat)  (r : Bool) (w : World) (h : awakeP14.f k  = some r) (hT_ : r = true) :
    Calls Try.prog 12 #[] w fun e w' => e = .returned (.bool r) ∧ Below w.heap.size w w' := by
  have hu25 := Try.underlying25
  have hu32 := Try.underlying32
  have HB := Aside0.mk (Below.refl w.heap.size w)
  have H : ((scrivenerlaw14_three.f).bind fun bt145 => ((some (([(⟨bt145.1, bt145.2⟩ : S25)] : List (S25)) : List (S25))).bind fun y150 => ((stripe_Pick.f bt145.2 3 2 (([8] : List Int))).bind fun bt156 => ((stripe_Pick.f bt145.2 3 3 (([8] : List Int))).bind fun bt163 => ((stripe_Set.f k y150 2 3).bind fun t167 => (if 2 ≤ (bt145.2.length : Int) then ((scrivenerref14_Same.f k t167 (bt145.2.take 2)).bind fun t175 => (if t175 = true then ((stripe_Set.f k y150 2 5).bind fun t176 => ((scrivenerlaw14_place.f 9).bind fun bt179 => ((scrivenerlaw14_place.f 7).bind fun bt181 => ((scrivenerref14_Same.f k t176 (([(⟨bt179.1, bt179.2⟩ : S32), (⟨bt181.1, bt181.2⟩ : S32)] : List (S32)))).bind fun t186 => (if t186 = true then ((stripe_Set.f k y150 2 2).bind fun t187 => (if (t187.length : Int) = 0 then ((scrivenerlaw14_place.f 7).bind fun bt190 => ((stripe_Covered.f bt145.1 bt145.2 2 2 (([(⟨bt190.1, bt190.2⟩ : S32)] : List (S32)))).bind fun t195 => (if t195 = true then (some false) else ((stripe_Covered.f bt145.1 bt145.2 2 2 bt145.2).bind fun t196 => (if t196 = true then (if bt156.2 = 0 then (if (bt156.1.length : Int) = 2 then (if 1 < (bt156.1.length : Int) then ((scrivenerlaw14_place.f 9).bind fun bt198 => (if (((rd_T32 bt156.1 1).f0) == bt198.1 && (((rd_T32 bt156.1 1).f1) == bt198.2)) = true then (some (bt163.2 == 3)) else (some false))) else (none)) else (some false)) else (some false)) else (some false)))))) else (some false))) else (some false)))))) else (some false))) else (none))))))) = some r := h
  clear h
  have HT_ := Aside0.mk hT_
  clear hT_
  replace H := Option.bind_eq_some_iff.mp H
  obtain ⟨⟨t145, t146⟩, A10, H⟩ := H
  replace H : ((some (([(⟨t145, t146⟩ : S25)] : List (S25)) : List (S25))).bind fun y150 => ((stripe_Pick.f t146 3 2 (([8] : List Int))).bind fun bt156 => ((stripe_Pick.f t146 3 3 (([8] : List Int))).bind fun bt163 => ((stripe_Set.f k y150 2 3).bind fun t167 => (if 2 ≤ (t146.length : Int) then ((scrivenerref14_Same.f k t167 (t146.take 2)).bind fun t175 => (if t175 = true then ((stripe_Set.f k y150 2 5).bind fun t176 => ((scrivenerlaw14_place.f 9).bind fun bt179 => ((scrivenerlaw14_place.f 7).bind fun bt181 => ((scrivenerref14_Same.f k t176 (([(⟨bt179.1, bt179.2⟩ : S32), (⟨bt181.1, bt181.2⟩ : S32)] : List (S32)))).bind fun t186 => (if t186 = true then ((stripe_Set.f k y150 2 2).bind fun t187 => (if (t187.length : Int) = 0 then ((scrivenerlaw14_place.f 7).bind fun bt190 => ((stripe_Covered.f t145 t146 2 2 (([(⟨bt190.1, bt190.2⟩ : S32)] : List (S32)))).bind fun t195 => (if t195 = true then (some false) else ((stripe_Covered.f t145 t146 2 2 t146).bind fun t196 => (if t196 = true then (if bt156.2 = 0 then (if (bt156.1.length : Int) = 2 then (if 1 < (bt156.1.length : Int) then ((scrivenerlaw14_place.f 9).bind fun bt198 => (if (((rd_T32 bt156.1 1).f0) == bt198.1 && (((rd_T32 bt156.1 1).f1) == bt198.2)) = true then (some (bt163.2 == 3)) else (some false))) else (none)) else (some false)) else (some false)) else (some false)))))) else (some false))) else (some false)))))) else (some false))) else (none)))))) = some r := H
  have A1 := Aside0.mk A10
  clear A10
  obtain ⟨y150, hy150⟩ : ∃ y_ : List (S25), y_ = (([(⟨t145, t146⟩ : S25)] : List (S25))) := ⟨_, rfl⟩
  replace H : ((stripe_Pick.f t146 3 2 (([8] : List Int))).bind fun bt156 => ((stripe_Pick.f t146 3 3 (([8] : List Int))).bind fun bt163 => ((stripe_Set.f k y150 2 3).bind fun t167 => (if 2 ≤ (t146.length : Int) then ((scrivenerref14_Same.f k t167 (t146.take 2)).bind fun t175 => (if t175 = true then ((stripe_Set.f k y150 2 5).bind fun t176 => ((scrivenerlaw14_place.f 9).bind fun bt179 => ((scrivenerlaw14_place.f 7).bind fun bt181 => ((scrivenerref14_Same.f k t176 (([(⟨bt179.1, bt179.2⟩ : S32), (⟨bt181.1, bt181.2⟩ : S32)] : List (S32)))).bind fun t186 => (if t186 = true then ((stripe_Set.f k y150 2 2).bind fun t187 => (if (t187.length : Int) = 0 then ((scrivenerlaw14_place.f 7).bind fun bt190 => ((stripe_Covered.f t145 t146 2 2 (([(⟨bt190.1, bt190.2⟩ : S32)] : List (S32)))).bind fun t195 => (if t195 = true then (some false) else ((stripe_Covered.f t145 t146 2 2 t146).bind fun t196 => (if t196 = true then (if bt156.2 = 0 then (if (bt156.1.length : Int) = 2 then (if 1 < (bt156.1.length : Int) then ((scrivenerlaw14_place.f 9).bind fun bt198 => (if (((rd_T32 bt156.1 1).f0) == bt198.1 && (((rd_T32 bt156.1 1).f1) == bt198.2)) = true then (some (bt163.2 == 3)) else (some false))) else (none)) else (some false)) else (some false)) else (some false)))))) else (some false))) else (some false)))))) else (some false))) else (none))))) = some r := by first | (rw [hy150]; with_reducible exact H) | (have H2_ := (Option.bind_some _ _).symm.trans H; rw [hy150]; with_reducible exact H2_) | (have H2_ := (Option.bind_some _ _).symm.trans H; with_reducible exact H2_) | with_reducible exact H | (rw [hy150]; exact H) | exact H
  have Ny150 := Aside0.mk hy150
  clear hy150
  obtain ⟨y153, hy153⟩ : ∃ y_ : List Int, y_ = (([8] : List Int)) := ⟨_, rfl⟩
  replace H : ((stripe_Pick.f t146 3 2 y153).bind fun bt156 => ((stripe_Pick.f t146 3 3 (([8] : List Int))).bind fun bt163 => ((stripe_Set.f k y150 2 3).bind fun t167 => (if 2 ≤ (t146.length : Int) then ((scrivenerref14_Same.f k t167 (t146.take 2)).bind fun t175 => (if t175 = true then ((stripe_Set.f k y150 2 5).bind fun t176 => ((scrivenerlaw14_place.f 9).bind fun bt179 => ((scrivenerlaw14_place.f 7).bind fun bt181 => ((scrivenerref14_Same.f k t176 (([(⟨bt179.1, bt179.2⟩ : S32), (⟨bt181.1, bt181.2⟩ : S32)] : List (S32)))).bind fun t186 => (if t186 = true then ((stripe_Set.f k y150 2 2).bind fun t187 => (if (t187.length : Int) = 0 then ((scrivenerlaw14_place.f 7).bind fun bt190 => ((stripe_Covered.f t145 t146 2 2 (([(⟨bt190.1, bt190.2⟩ : S32)] : List (S32)))).bind fun t195 => (if t195 = true then (some false) else ((stripe_Covered.f t145 t146 2 2 t146).bind fun t196 => (if t196 = true then (if bt156.2 = 0 then (if (bt156.1.length : Int) = 2 then (if 1 < (bt156.1.length : Int) then ((scrivenerlaw14_place.f 9).bind fun bt198 => (if (((rd_T32 bt156.1 1).f0) == bt198.1 && (((rd_T32 bt156.1 1).f1) == bt198.2)) = true then (some (bt163.2 == 3)) else (some false))) else (none)) else (some false)) else (some false)) else (some false)))))) else (some false))) else (some false)))))) else (some false))) else (none))))) = some r := by first | (rw [hy153]; with_reducible exact H) | (have H2_ := (Option.bind_some _ _).symm.trans H; rw [hy153]; with_reducible exact H2_) | (have H2_ := (Option.bind_some _ _).symm.trans H; with_reducible exact H2_) | with_reducible exact H | (rw [hy153]; exact H) | exact H
  have Ny153 := Aside0.mk hy153
  clear hy153
  replace H := Option.bind_eq_some_iff.mp H
  obtain ⟨⟨t156, t157⟩, A20, H⟩ := H
  replace H : ((stripe_Pick.f t146 3 3 (([8] : List Int))).bind fun bt163 => ((stripe_Set.f k y150 2 3).bind fun t167 => (if 2 ≤ (t146.length : Int) then ((scrivenerref14_Same.f k t167 (t146.take 2)).bind fun t175 => (if t175 = true then ((stripe_Set.f k y150 2 5).bind fun t176 => ((scrivenerlaw14_place.f 9).bind fun bt179 => ((scrivenerlaw14_place.f 7).bind fun bt181 => ((scrivenerref14_Same.f k t176 (([(⟨bt179.1, bt179.2⟩ : S32), (⟨bt181.1, bt181.2⟩ : S32)] : List (S32)))).bind fun t186 => (if t186 = true then ((stripe_Set.f k y150 2 2).bind fun t187 => (if (t187.length : Int) = 0 then ((scrivenerlaw14_place.f 7).bind fun bt190 => ((stripe_Covered.f t145 t146 2 2 (([(⟨bt190.1, bt190.2⟩ : S32)] : List (S32)))).bind fun t195 => (if t195 = true then (some false) else ((stripe_Covered.f t145 t146 2 2 t146).bind fun t196 => (if t196 = true then (if t157 = 0 then (if (t156.length : Int) = 2 then (if 1 < (t156.length : Int) then ((scrivenerlaw14_place.f 9).bind fun bt198 => (if (((rd_T32 t156 1).f0) == bt198.1 && (((rd_T32 t156 1).f1) == bt198.2)) = true then (some (bt163.2 == 3)) else (some false))) else (none)) else (some false)) else (some false)) else (some false)))))) else (some false))) else (some false)))))) else (some false))) else (none)))) = some r := H
  have A2 := Aside0.mk A20
  clear A20
  obtain ⟨y160, hy160⟩ : ∃ y_ : List Int, y_ = (([8] : List Int)) := ⟨_, rfl⟩
  replace H : ((stripe_Pick.f t146 3 3 y160).bind fun bt163 => ((stripe_Set.f k y150 2 3).bind fun t167 => (if 2 ≤ (t146.length : Int) then ((scrivenerref14_Same.f k t167 (t146.take 2)).bind fun t175 => (if t175 = true then ((stripe_Set.f k y150 2 5).bind fun t176 => ((scrivenerlaw14_place.f 9).bind fun bt179 => ((scrivenerlaw14_place.f 7).bind fun bt181 => ((scrivenerref14_Same.f k t176 (([(⟨bt179.1, bt179.2⟩ : S32), (⟨bt181.1, bt181.2⟩ : S32)] : List (S32)))).bind fun t186 => (if t186 = true then ((stripe_Set.f k y150 2 2).bind fun t187 => (if (t187.length : Int) = 0 then ((scrivenerlaw14_place.f 7).bind fun bt190 => ((stripe_Covered.f t145 t146 2 2 (([(⟨bt190.1, bt190.2⟩ : S32)] : List (S32)))).bind fun t195 => (if t195 = true then (some false) else ((stripe_Covered.f t145 t146 2 2 t146).bind fun t196 => (if t196 = true then (if t157 = 0 then (if (t156.length : Int) = 2 then (if 1 < (t156.length : Int) then ((scrivenerlaw14_place.f 9).bind fun bt198 => (if (((rd_T32 t156 1).f0) == bt198.1 && (((rd_T32 t156 1).f1) == bt198.2)) = true then (some (bt163.2 == 3)) else (some false))) else (none)) else (some false)) else (some false)) else (some false)))))) else (some false))) else (some false)))))) else (some false))) else (none)))) = some r := by first | (rw [hy160]; with_reducible exact H) | (have H2_ := (Option.bind_some _ _).symm.trans H; rw [hy160]; with_reducible exact H2_) | (have H2_ := (Option.bind_some _ _).symm.trans H; with_reducible exact H2_) | with_reducible exact H | (rw [hy160]; exact H) | exact H
  have Ny160 := Aside0.mk hy160
  clear hy160
  replace H := Option.bind_eq_some_iff.mp H
  obtain ⟨⟨t163, t164⟩, A30, H⟩ := H
  replace H : ((stripe_Set.f k y150 2 3).bind fun t167 => (if 2 ≤ (t146.length : Int) then ((scrivenerref14_Same.f k t167 (t146.take 2)).bind fun t175 => (if t175 = true then ((stripe_Set.f k y150 2 5).bind fun t176 => ((scrivenerlaw14_place.f 9).bind fun bt179 => ((scrivenerlaw14_place.f 7).bind fun bt181 => ((scrivenerref14_Same.f k t176 (([(⟨bt179.1, bt179.2⟩ : S32), (⟨bt181.1, bt181.2⟩ : S32)] : List (S32)))).bind fun t186 => (if t186 = true then ((stripe_Set.f k y150 2 2).bind fun t187 => (if (t187.length : Int) = 0 then ((scrivenerlaw14_place.f 7).bind fun bt190 => ((stripe_Covered.f t145 t146 2 2 (([(⟨bt190.1, bt190.2⟩ : S32)] : List (S32)))).bind fun t195 => (if t195 = true then (some false) else ((stripe_Covered.f t145 t146 2 2 t146).bind fun t196 => (if t196 = true then (if t157 = 0 then (if (t156.length : Int) = 2 then (if 1 < (t156.length : Int) then ((scrivenerlaw14_place.f 9).bind fun bt198 => (if (((rd_T32 t156 1).f0) == bt198.1 && (((rd_T32 t156 1).f1) == bt198.2)) = true then (some (t164 == 3)) else (some false))) else (none)) else (some false)) else (some false)) else (some false)))))) else (some false))) else (some false)))))) else (some false))) else (none))) = some r := H
  have A3 := Aside0.mk A30
  clear A30
  replace H := Option.bind_eq_some_iff.mp H
  obtain ⟨t167, A40, H⟩ := H
  replace H : (if 2 ≤ (t146.length : Int) then ((scrivenerref14_Same.f k t167 (t146.take 2)).bind fun t175 => (if t175 = true then ((stripe_Set.f k y150 2 5).bind fun t176 => ((scrivenerlaw14_place.f 9).bind fun bt179 => ((scrivenerlaw14_place.f 7).bind fun bt181 => ((scrivenerref14_Same.f k t176 (([(⟨bt179.1, bt179.2⟩ : S32), (⟨bt181.1, bt181.2⟩ : S32)] : List (S32)))).bind fun t186 => (if t186 = true then ((stripe_Set.f k y150 2 2).bind fun t187 => (if (t187.length : Int) = 0 then ((scrivenerlaw14_place.f 7).bind fun bt190 => ((stripe_Covered.f t145 t146 2 2 (([(⟨bt190.1, bt190.2⟩ : S32)] : List (S32)))).bind fun t195 => (if t195 = true then (some false) else ((stripe_Covered.f t145 t146 2 2 t146).bind fun t196 => (if t196 = true then (if t157 = 0 then (if (t156.length : Int) = 2 then (if 1 < (t156.length : Int) then ((scrivenerlaw14_place.f 9).bind fun bt198 => (if (((rd_T32 t156 1).f0) == bt198.1 && (((rd_T32 t156 1).f1) == bt198.2)) = true then (some (t164 == 3)) else (some false))) else (none)) else (some false)) else (some false)) else (some false)))))) else (some false))) else (some false)))))) else (some false))) else (none)) = some r := H
  have A4 := Aside0.mk A40
  clear A40
  by_cases c5 : 2 ≤ (t146.length : Int)
  · rw [if_pos c5] at H
    have c5b0 := eq_true c5
    have c5b1 : decide (2 ≤ (t146.length : Int)) = true := decide_eq_true c5
    clear c5
    obtain ⟨y170, hy170⟩ : ∃ y_ : List (S32), y_ = (t146.take 2) := ⟨_, rfl⟩
    replace H : ((scrivenerref14_Same.f k t167 y170).bind fun t175 => (if t175 = true then ((stripe_Set.f k y150 2 5).bind fun t176 => ((scrivenerlaw14_place.f 9).bind fun bt179 => ((scrivenerlaw14_place.f 7).bind fun bt181 => ((scrivenerref14_Same.f k t176 (([(⟨bt179.1, bt179.2⟩ : S32), (⟨bt181.1, bt181.2⟩ : S32)] : List (S32)))).bind fun t186 => (if t186 = true then ((stripe_Set.f k y150 2 2).bind fun t187 => (if (t187.length : Int) = 0 then ((scrivenerlaw14_place.f 7).bind fun bt190 => ((stripe_Covered.f t145 t146 2 2 (([(⟨bt190.1, bt190.2⟩ : S32)] : List (S32)))).bind fun t195 => (if t195 = true then (some false) else ((stripe_Covered.f t145 t146 2 2 t146).bind fun t196 => (if t196 = true then (if t157 = 0 then (if (t156.length : Int) = 2 then (if 1 < (t156.length : Int) then ((scrivenerlaw14_place.f 9).bind fun bt198 => (if (((rd_T32 t156 1).f0) == bt198.1 && (((rd_T32 t156 1).f1) == bt198.2)) = true then (some (t164 == 3)) else (some false))) else (none)) else (some false)) else (some false)) else (some false)))))) else (some false))) else (some false)))))) else (some false))) = some r := by first | (rw [hy170]; with_reducible exact H) | (have H2_ := (Option.bind_some _ _).symm.trans H; rw [hy170]; with_reducible exact H2_) | (have H2_ := (Option.bind_some _ _).symm.trans H; with_reducible exact H2_) | with_reducible exact H | (rw [hy170]; exact H) | exact H
    have Ny170 := Aside0.mk hy170
    clear hy170
    replace H := Option.bind_eq_some_iff.mp H
    obtain ⟨t175, A60, H⟩ := H
    replace H : (if t175 = true then ((stripe_Set.f k y150 2 5).bind fun t176 => ((scrivenerlaw14_place.f 9).bind fun bt179 => ((scrivenerlaw14_place.f 7).bind fun bt181 => ((scrivenerref14_Same.f k t176 (([(⟨bt179.1, bt179.2⟩ : S32), (⟨bt181.1, bt181.2⟩ : S32)] : List (S32)))).bind fun t186 => (if t186 = true then ((stripe_Set.f k y150 2 2).bind fun t187 => (if (t187.length : Int) = 0 then ((scrivenerlaw14_place.f 7).bind fun bt190 => ((stripe_Covered.f t145 t146 2 2 (([(⟨bt190.1, bt190.2⟩ : S32)] : List (S32)))).bind fun t195 => (if t195 = true then (some false) else ((stripe_Covered.f t145 t146 2 2 t146).bind fun t196 => (if t196 = true then (if t157 = 0 then (if (t156.length : Int) = 2 then (if 1 < (t156.length : Int) then ((scrivenerlaw14_place.f 9).bind fun bt198 => (if (((rd_T32 t156 1).f0) == bt198.1 && (((rd_T32 t156 1).f1) == bt198.2)) = true then (some (t164 == 3)) else (some false))) else (none)) else (some false)) else (some false)) else (some false)))))) else (some false))) else (some false)))))) else (some false)) = some r := H
    have A6 := Aside0.mk A60
    clear A60
    by_cases c7 : t175 = true
    · subst c7
      rw [if_pos rfl] at H
      replace H := Option.bind_eq_some_iff.mp H
      obtain ⟨t176, A80, H⟩ := H
      replace H : ((scrivenerlaw14_place.f 9).bind fun bt179 => ((scrivenerlaw14_place.f 7).bind fun bt181 => ((scrivenerref14_Same.f k t176 (([(⟨bt179.1, bt179.2⟩ : S32), (⟨bt181.1, bt181.2⟩ : S32)] : List (S32)))).bind fun t186 => (if t186 = true then ((stripe_Set.f k y150 2 2).bind fun t187 => (if (t187.length : Int) = 0 then ((scrivenerlaw14_place.f 7).bind fun bt190 => ((stripe_Covered.f t145 t146 2 2 (([(⟨bt190.1, bt190.2⟩ : S32)] : List (S32)))).bind fun t195 => (if t195 = true then (some false) else ((stripe_Covered.f t145 t146 2 2 t146).bind fun t196 => (if t196 = true then (if t157 = 0 then (if (t156.length : Int) = 2 then (if 1 < (t156.length : Int) then ((scrivenerlaw14_place.f 9).bind fun bt198 => (if (((rd_T32 t156 1).f0) == bt198.1 && (((rd_T32 t156 1).f1) == bt198.2)) = true then (some (t164 == 3)) else (some false))) else (none)) else (some false)) else (some false)) else (some false)))))) else (some false))) else (some false))))) = some r := H
      have A8 := Aside0.mk A80
      clear A80
      replace H := Option.bind_eq_some_iff.mp H
      obtain ⟨⟨t179, t180⟩, A90, H⟩ := H
      replace H : ((scrivenerlaw14_place.f 7).bind fun bt181 => ((scrivenerref14_Same.f k t176 (([(⟨t179, t180⟩ : S32), (⟨bt181.1, bt181.2⟩ : S32)] : List (S32)))).bind fun t186 => (if t186 = true then ((stripe_Set.f k y150 2 2).bind fun t187 => (if (t187.length : Int) = 0 then ((scrivenerlaw14_place.f 7).bind fun bt190 => ((stripe_Covered.f t145 t146 2 2 (([(⟨bt190.1, bt190.2⟩ : S32)] : List (S32)))).bind fun t195 => (if t195 = true then (some false) else ((stripe_Covered.f t145 t146 2 2 t146).bind fun t196 => (if t196 = true then (if t157 = 0 then (if (t156.length : Int) = 2 then (if 1 < (t156.length : Int) then ((scrivenerlaw14_place.f 9).bind fun bt198 => (if (((rd_T32 t156 1).f0) == bt198.1 && (((rd_T32 t156 1).f1) == bt198.2)) = true then (some (t164 == 3)) else (some false))) else (none)) else (some false)) else (some false)) else (some false)))))) else (some false))) else (some false)))) = some r := H
      have A9 := Aside0.mk A90
      clear A90
      replace H := Option.bind_eq_some_iff.mp H
      obtain ⟨⟨t181, t182⟩, A100, H⟩ := H
      replace H : ((scrivenerref14_Same.f k t176 (([(⟨t179, t180⟩ : S32), (⟨t181, t182⟩ : S32)] : List (S32)))).bind fun t186 => (if t186 = true then ((stripe_Set.f k y150 2 2).bind fun t187 => (if (t187.length : Int) = 0 then ((scrivenerlaw14_place.f 7).bind fun bt190 => ((stripe_Covered.f t145 t146 2 2 (([(⟨bt190.1, bt190.2⟩ : S32)] : List (S32)))).bind fun t195 => (if t195 = true then (some false) else ((stripe_Covered.f t145 t146 2 2 t146).bind fun t196 => (if t196 = true then (if t157 = 0 then (if (t156.length : Int) = 2 then (if 1 < (t156.length : Int) then ((scrivenerlaw14_place.f 9).bind fun bt198 => (if (((rd_T32 t156 1).f0) == bt198.1 && (((rd_T32 t156 1).f1) == bt198.2)) = true then (some (t164 == 3)) else (some false))) else (none)) else (some false)) else (some false)) else (some false)))))) else (some false))) else (some false))) = some r := H
      have A10 := Aside0.mk A100
      clear A100
      obtain ⟨y183, hy183⟩ : ∃ y_ : List (S32), y_ = (([(⟨t179, t180⟩ : S32), (⟨t181, t182⟩ : S32)] : List (S32))) := ⟨_, rfl⟩
      replace H : ((scrivenerref14_Same.f k t176 y183).bind fun t186 => (if t186 = true then ((stripe_Set.f k y150 2 2).bind fun t187 => (if (t187.length : Int) = 0 then ((scrivenerlaw14_place.f 7).bind fun bt190 => ((stripe_Covered.f t145 t146 2 2 (([(⟨bt190.1, bt190.2⟩ : S32)] : List (S32)))).bind fun t195 => (if t195 = true then (some false) else ((stripe_Covered.f t145 t146 2 2 t146).bind fun t196 => (if t196 = true then (if t157 = 0 then (if (t156.length : Int) = 2 then (if 1 < (t156.length : Int) then ((scrivenerlaw14_place.f 9).bind fun bt198 => (if (((rd_T32 t156 1).f0) == bt198.1 && (((rd_T32 t156 1).f1) == bt198.2)) = true then (some (t164 == 3)) else (some false))) else (none)) else (some false)) else (some false)) else (some false)))))) else (some false))) else (some false))) = some r := by first | (rw [hy183]; with_reducible exact H) | (have H2_ := (Option.bind_some _ _).symm.trans H; rw [hy183]; with_reducible exact H2_) | (have H2_ := (Option.bind_some _ _).symm.trans H; with_reducible exact H2_) | with_reducible exact H | (rw [hy183]; exact H) | exact H
      have Ny183 := Aside0.mk hy183
      clear hy183
      replace H := Option.bind_eq_some_iff.mp H
      obtain ⟨t186, A110, H⟩ := H
      replace H : (if t186 = true then ((stripe_Set.f k y150 2 2).bind fun t187 => (if (t187.length : Int) = 0 then ((scrivenerlaw14_place.f 7).bind fun bt190 => ((stripe_Covered.f t145 t146 2 2 (([(⟨bt190.1, bt190.2⟩ : S32)] : List (S32)))).bind fun t195 => (if t195 = true then (some false) else ((stripe_Covered.f t145 t146 2 2 t146).bind fun t196 => (if t196 = true then (if t157 = 0 then (if (t156.length : Int) = 2 then (if 1 < (t156.length : Int) then ((scrivenerlaw14_place.f 9).bind fun bt198 => (if (((rd_T32 t156 1).f0) == bt198.1 && (((rd_T32 t156 1).f1) == bt198.2)) = true then (some (t164 == 3)) else (some false))) else (none)) else (some false)) else (some false)) else (some false)))))) else (some false))) else (some false)) = some r := H
      have A11 := Aside0.mk A110
      clear A110
      by_cases c12 : t186 = true
      · subst c12
        rw [if_pos rfl] at H
        replace H := Option.bind_eq_some_iff.mp H
        obtain ⟨t187, A130, H⟩ := H
        replace H : (if (t187.length : Int) = 0 then ((scrivenerlaw14_place.f 7).bind fun bt190 => ((stripe_Covered.f t145 t146 2 2 (([(⟨bt190.1, bt190.2⟩ : S32)] : List (S32)))).bind fun t195 => (if t195 = true then (some false) else ((stripe_Covered.f t145 t146 2 2 t146).bind fun t196 => (if t196 = true then (if t157 = 0 then (if (t156.length : Int) = 2 then (if 1 < (t156.length : Int) then ((scrivenerlaw14_place.f 9).bind fun bt198 => (if (((rd_T32 t156 1).f0) == bt198.1 && (((rd_T32 t156 1).f1) == bt198.2)) = true then (some (t164 == 3)) else (some false))) else (none)) else (some false)) else (some false)) else (some false)))))) else (some false)) = some r := H
        have A13 := Aside0.mk A130
        clear A130
        by_cases c14 : (t187.length : Int) = 0
        · rw [if_pos c14] at H
          have c14b0 : ((t187.length : Int) == 0) = true := beq_iff_eq.mpr c14
          have c14b1 : ((t187.length : Int) != 0) = false := bne_eq_false_iff_eq.mpr c14
          clear c14
          replace H := Option.bind_eq_some_iff.mp H
          obtain ⟨⟨t190, t191⟩, A150, H⟩ := H
          replace H : ((stripe_Covered.f t145 t146 2 2 (([(⟨t190, t191⟩ : S32)] : List (S32)))).bind fun t195 => (if t195 = true then (some false) else ((stripe_Covered.f t145 t146 2 2 t146).bind fun t196 => (if t196 = true then (if t157 = 0 then (if (t156.length : Int) = 2 then (if 1 < (t156.length : Int) then ((scrivenerlaw14_place.f 9).bind fun bt198 => (if (((rd_T32 t156 1).f0) == bt198.1 && (((rd_T32 t156 1).f1) == bt198.2)) = true then (some (t164 == 3)) else (some false))) else (none)) else (some false)) else (some false)) else (some false))))) = some r := H
          have A15 := Aside0.mk A150
          clear A150
          obtain ⟨y192, hy192⟩ : ∃ y_ : List (S32), y_ = (([(⟨t190, t191⟩ : S32)] : List (S32))) := ⟨_, rfl⟩
          replace H : ((stripe_Covered.f t145 t146 2 2 y192).bind fun t195 => (if t195 = true then (some false) else ((stripe_Covered.f t145 t146 2 2 t146).bind fun t196 => (if t196 = true then (if t157 = 0 then (if (t156.length : Int) = 2 then (if 1 < (t156.length : Int) then ((scrivenerlaw14_place.f 9).bind fun bt198 => (if (((rd_T32 t156 1).f0) == bt198.1 && (((rd_T32 t156 1).f1) == bt198.2)) = true then (some (t164 == 3)) else (some false))) else (none)) else (some false)) else (some false)) else (some false))))) = some r := by first | (rw [hy192]; with_reducible exact H) | (have H2_ := (Option.bind_some _ _).symm.trans H; rw [hy192]; with_reducible exact H2_) | (have H2_ := (Option.bind_some _ _).symm.trans H; with_reducible exact H2_) | with_reducible exact H | (rw [hy192]; exact H) | exact H
          have Ny192 := Aside0.mk hy192
          clear hy192
          replace H := Option.bind_eq_some_iff.mp H
          obtain ⟨t195, A160, H⟩ := H
          replace H : (if t195 = true then (some false) else ((stripe_Covered.f t145 t146 2 2 t146).bind fun t196 => (if t196 = true then (if t157 = 0 then (if (t156.length : Int) = 2 then (if 1 < (t156.length : Int) then ((scrivenerlaw14_place.f 9).bind fun bt198 => (if (((rd_T32 t156 1).f0) == bt198.1 && (((rd_T32 t156 1).f1) == bt198.2)) = true then (some (t164 == 3)) else (some false))) else (none)) else (some false)) else (some false)) else (some false)))) = some r := H
          have A16 := Aside0.mk A160
          clear A160
          by_cases c17 : t195 = true
          · subst c17
            rw [if_pos rfl] at H
            exact absurd (Option.some.inj H) (by rw [HT_.out]; decide)
          · replace c17 := Bool.eq_false_iff.mpr c17
            subst c17
            rw [if_neg (show ¬ (false = true) by decide)] at H
            replace H := Option.bind_eq_some_iff.mp H
            obtain ⟨t196, A180, H⟩ := H
            replace H : (if t196 = true then (if t157 = 0 then (if (t156.length : Int) = 2 then (if 1 < (t156.length : Int) then ((scrivenerlaw14_place.f 9).bind fun bt198 => (if (((rd_T32 t156 1).f0) == bt198.1 && (((rd_T32 t156 1).f1) == bt198.2)) = true then (some (t164 == 3)) else (some false))) else (none)) else (some false)) else (some false)) else (some false)) = some r := H
            have A18 := Aside0.mk A180
            clear A180
            by_cases c19 : t196 = true
            · subst c19
              rw [if_pos rfl] at H
              by_cases c20 : t157 = 0
              · rw [if_pos c20] at H
                have c20b0 : (t157 == 0) = true := beq_iff_eq.mpr c20
                have c20b1 : (t157 != 0) = false := bne_eq_false_iff_eq.mpr c20
                clear c20
                by_cases c21 : (t156.length : Int) = 2
                · rw [if_pos c21] at H
                  have c21b0 : ((t156.length : Int) == 2) = true := beq_iff_eq.mpr c21
                  have c21b1 : ((t156.length : Int) != 2) = false := bne_eq_false_iff_eq.mpr c21
                  clear c21
                  by_cases c22 : 1 < (t156.length : Int)
                  · rw [if_pos c22] at H
                    have c22b0 : decide (1 < (t156.length : Int)) = true := decide_eq_true c22
                    have c22b1 : decide (1 < t156.length) = true := decide_eq_true (by omega)
                    clear c22
                    replace H := Option.bind_eq_some_iff.mp H
                    obtain ⟨⟨t198, t199⟩, A230, H⟩ := H
                    replace H : (if (((rd_T32 t156 1).f0) == t198 && (((rd_T32 t156 1).f1) == t199)) = true then (some (t164 == 3)) else (some false)) = some r := H
                    have A23 := Aside0.mk A230
                    clear A230
                    by_cases c24 : (((rd_T32 t156 1).f0) == t198 && (((rd_T32 t156 1).f1) == t199)) = true
                    · rw [if_pos c24] at H
                      have c24b0 : (((rd_T32 t156 1).f0) == t198 && (((rd_T32 t156 1).f1) == t199)) = true := c24
                      (try (have c24b1 : decide (((rd_T32 t156 1).f0) = t198 && (((rd_T32 t156 1).f1) == t199)) = true := by simpa using c24))
                      (try (have c24b2 : (((rd_T32 t156 1).f0) == t198 && (((rd_T32 t156 1).f1) == t199)) = true := by simpa using c24))
                      clear c24
                      obtain rfl := Option.some.inj H
                      go_enter Try.func12, Try.ntmps12
                      try go_wp2_with (first | ((with_reducible refine gate_callee (f := 33) rfl ?_); refine goesL_ (some 7) rfl rfl Try.func33 (by kernel_rfl) rfl #[] rfl (by (try simp only [List.map_toArray, List.map_cons, List.map_nil]); first | done | rfl | (simp only [List.length_drop, List.length_take]; rfl)) ?_; (with_reducible refine (scrivenerlaw14_three.calls  t145 t146 _ A1.out).mono ?_); rintro e w25 ⟨v147, rfl, ho0, hb⟩; refine ⟨_, rfl, ?_⟩; have n0_ := Aside0.mk (Kd.V_lower (Kd.V_mono (ok' := fun k_ => True) ho0 (fun k_ hk_ => trivial)) (below_size (Hb HB.out))); have n1_ := Aside0.mk (below_step (Hb HB.out) hb); clear HB; have HO148 := n0_; have HB := n1_; clear n0_ n1_; (try clear hb); (try clear hb2); (try clear hk); (try clear hi); (try clear ho0)) | ((with_reducible refine gate_dst (N := 1) rfl ?_); (try (refine gate_guard (by rfl) ?_; dsimp only)); refine box_event ?hg (N := 1) ?hd (cs := #[.int .u64 0, .slice none 0 0]) (t := 25) ?hr ?_; (case hd => rfl); (case hg => rfl); (case hr => first | (go_simp; done) | (go_simp; rfl)); intro gb149 hg w26 hbox hb; have n0_ := Aside0.mk (Kd.V_below (Kd.V_elderB (Vb HO148.out) gb149 (Nat.le_of_eq hg.symm)) hb); have n1_ := Aside0.mk (below_step (Hb HB.out) hb); have n2_ := Aside0.mk (hbox); have n3_ := Aside0.mk ((by rw [hg]; exact (below_size (Hb HB.out)) : w.heap.size ≤ gb149)); have n4_ := Aside0.mk ((by rw [hg]; exact (below_size (Hb HB.out)) : w.heap.size ≤ gb149)); clear HO148; clear HB; have HO148 := n0_; have HB := n1_; have BK149 := n2_; have GW149 := n3_; have GE149 := n4_; clear n0_ n1_ n2_ n3_ n4_; clear hb hbox hg; have hcz27_0 : w26.cell? ⟨gb149, 0, none⟩ = some (.int .u64 0) := (blk_cell BK149.out 0).trans rfl; have hcz27_1 : w26.cell? ⟨gb149, 1, none⟩ = some (.slice none 0 0) := (blk_cell BK149.out 1).trans rfl; have hfz27_0 := blk_frozen BK149.out 0; have hfz27_1 := blk_frozen BK149.out 1; obtain ⟨Ao28, co28, eo28⟩ := Kd.V_slice HO148.out; subst eo28) | ((with_reducible refine gate_store (t := 25) (p := 1) rfl ?_); refine store_event (t := 25) (p := 1) (v := ?vo_w29) (w1 := ((w26.setCell ⟨gb149, 0, none⟩ (.int .u64 t145)).setCell ⟨gb149, 1, none⟩ (.slice Ao28 t146.length co28))) ?hg ?ho ?hn ?hr ?_; (case ho => rfl); (case hg => rfl); (case hn => rfl); (case hr => first | (go_simp; done) | (go_simp; rfl)); intro w29 hw; have n0_ : Aside0 (Kd.V k32 32 w29 w.heap.size (fun k_ => k_ ≠ gb149) (.slice Ao28 t146.length co28) t146) := ⟨(by rw [hw]; exact (by (with_reducible repeat (first | apply Kd.V_alloc | apply Kd.V_drewN | apply Kd.V_drew)); exact Kd.V_mono (Kd.V_far (p := ⟨gb149, 1, none⟩) (Kd.V_far (p := ⟨gb149, 0, none⟩) (Kd.V_mono HO148.out (fun k_ hk => (⟨hk, hk.2⟩ : _ ∧ k_ ≠ gb149))) (fun _ hk => hk.2) (.int .u64 t145)) (fun _ hk => hk.2) (.slice Ao28 t146.length co28)) (fun _ hk => hk.1.2)))⟩; have n1_ : Aside0 (w29.heap[gb149]? = some (.cells #[.int .u64 t145, .slice Ao28 t146.length co28] 25 (0, 0))) := ⟨(by rw [hw]; exact (by (with_reducible repeat (first | refine blk_drewN ?_ _ | refine blk_drew ?_ | refine blk_alloc ?_ _)); refine blk_put (cs := #[.int .u64 t145, .slice none 0 0]) ?_ 1 _ rfl; (with_reducible repeat (first | refine blk_drewN ?_ _ | refine blk_drew ?_ | refine blk_alloc ?_ _)); refine blk_put (cs := #[.int .u64 0, .slice none 0 0]) ?_ 0 _ rfl; (with_reducible repeat (first | refine blk_drewN ?_ _ | refine blk_drew ?_ | refine blk_alloc ?_ _)); exact BK149.out))⟩; have n2_ : Aside0 (Below w.heap.size w w29) := ⟨(by rw [hw]; exact (Hb HB.out))⟩; clear hw; clear HO148; clear BK149; clear HB; have HO148 := n0_; have BK149 := n1_; have HB := n2_; clear n0_ n1_ n2_; have hcz30_0 : w29.cell? ⟨gb149, 0, none⟩ = some (.int .u64 t145) := (blk_cell BK149.out 0).trans rfl; have hcz30_1 : w29.cell? ⟨gb149, 1, none⟩ = some (.slice Ao28 t146.length co28) := (blk_cell BK149.out 1).trans rfl; have hfz30_0 := blk_frozen BK149.out 0; have hfz30_1 := blk_frozen BK149.out 1) | ((with_reducible refine gate_dst (N := 9) rfl ?_); (try (refine gate_guard (by rfl) ?_; dsimp only)); refine Kd.N_lit k25 _ 25 ?hg (N' := 9) ?hd (xs := ([(⟨t145, t146⟩ : S25)] : List (S25))) (inner := [.int .u64 t145, .slice Ao28 t146.length co28]) (ok := (fun k_ => k_ ≠ gb149)) (okp := (fun k_ => k_ ≠ gb149)) ?hr ?hp (fun _ hk => hk) ((show ∀ k_, w29.heap.size ≤ k_ → (fun k_ => k_ ≠ gb149) k_ from fun k_ hk => Kd.freshB (Bb BK149.out) k_ hk) _ (Nat.le_refl _)) (Below.refl _ _) (Nat.le_refl _) (by simp) ?_; (case hd => rfl); (case hg => rfl); (case hr => first | (go_simp; done) | (go_simp; rfl)); (case hp => exact (Reps.c2 (show Kd.FK k25 _ _ (⟨t145, t146⟩ : S25) [.int .u64 t145, .slice Ao28 t146.length co28] from (k25_mkF _ _ (⟨t145, t146⟩ : S25) (Kd.V_reads' HO148.out).2.1 (Kd.V_F (Kd.V_mono (Vb HO148.out) (fun k_ hk => hk))))) (Reps.none _ _))); intro v151 w31 ho32 hb hg_ hnew_; clear hg_ hnew_; (first | rw [← Ny150.out] at ho32 | (simp only [Int.reduceToNat] at ho32; rw [← Ny150.out] at ho32)); have n0_ := Aside0.mk (Kd.V_elder' (Vb HO148.out) (Kd.N_base ho32) hb); have n1_ := Aside0.mk (Kd.N_lower ho32 (below_size (Hb HB.out))); have n2_ := Aside0.mk (blk_below (Bb BK149.out) hb); have n3_ := Aside0.mk (below_step (Hb HB.out) hb); clear HO148; clear BK149; clear HB; have HO148 := n0_; have HO152 := n1_; have BK149 := n2_; have HB := n3_; clear n0_ n1_ n2_ n3_; clear hb ho32; have hcz33_0 : w31.cell? ⟨gb149, 0, none⟩ = some (.int .u64 t145) := (blk_cell BK149.out 0).trans rfl; have hcz33_1 : w31.cell? ⟨gb149, 1, none⟩ = some (.slice Ao28 t146.length co28) := (blk_cell BK149.out 1).trans rfl; have hfz33_0 := blk_frozen BK149.out 0; have hfz33_1 := blk_frozen BK149.out 1) | ((with_reducible refine gate_dst (N := 13) rfl ?_); (try (refine gate_guard (by rfl) ?_; dsimp only)); refine Kd.R_lit (Kd.int .i64) _ 3 ?hg (N := 13) ?hd (xs := ([8] : List Int)) (inner := [.int .i64 8]) (ok := fun _ => True) (okp := fun _ => True) ?hr ?hp (fun _ hk => hk) trivial (Below.refl _ _) (Nat.le_refl _) (by simp) ?_; (case hd => rfl); (case hg => rfl); (case hr => first | (go_simp; done) | (go_simp; rfl)); (case hp => exact (Reps.one (show Kd.M (Kd.int .i64) _ _ _ 8 [.int .i64 8] from rfl) (Reps.none _ _))); intro v154 w34 ho35 hb hg_ hnew_; clear hg_ hnew_; (first | rw [← Ny153.out] at ho35 | (simp only [Int.reduceToNat] at ho35; rw [← Ny153.out] at ho35)); have n0_ := Aside0.mk (Kd.V_elder' (Vb HO148.out) (Kd.R_base ho35) hb); have n1_ := Aside0.mk (Kd.N_elder' (Nb HO152.out) (Kd.R_base ho35) hb); have n2_ := Aside0.mk (Kd.R_lower ho35 (below_size (Hb HB.out))); have n3_ := Aside0.mk (blk_below (Bb BK149.out) hb); have n4_ := Aside0.mk (below_step (Hb HB.out) hb); clear HO148; clear HO152; clear BK149; clear HB; have HO148 := n0_; have HO152 := n1_; have HO155 := n2_; have BK149 := n3_; have HB := n4_; clear n0_ n1_ n2_ n3_ n4_; clear hb ho35; obtain ⟨Ao36, co36, eo36⟩ := Kd.R_slice HO155.out; subst eo36) | ((with_reducible refine gate_callee (f := 22) rfl ?_); refine goesL_ (some 14) rfl rfl Try.func22 (by kernel_rfl) rfl #[.slice Ao28 t146.length co28, .int .i64 3, .int .i64 2, .slice Ao36 y153.length co36] rfl (by (try simp only [List.map_toArray, List.map_cons, List.map_nil]); first | done | rfl | (simp only [List.length_drop, List.length_take]; rfl)) ?_; (with_reducible refine (stripe_Pick.calls _ _ t146 3 2 _ _ y153 t156 t157 _ ?side1 ?side2 ?side3 ?side4 A2.out).mono ?_); (case side1 => exact Cb (Kd.V_reads' HO148.out).2.2); (case side2 => exact (Kd.V_reads' HO148.out).2.1); (case side3 => exact Cb (Kd.R_reads' HO155.out).2.2); (case side4 => exact (Kd.R_reads' HO155.out).2.1); rintro e w37 ⟨v158, rfl, ho0, hb⟩; refine ⟨_, rfl, ?_⟩; have n0_ := Aside0.mk (Kd.V_elder' (Vb HO148.out) (Kd.R_base ho0) hb); have n1_ := Aside0.mk (Kd.N_elder' (Nb HO152.out) (Kd.R_base ho0) hb); have n2_ := Aside0.mk (Kd.R_below (Rb HO155.out) hb); have n3_ := Aside0.mk (Kd.R_lower ho0 (below_size (Hb HB.out))); have n4_ := Aside0.mk (blk_below (Bb BK149.out) hb); have n5_ := Aside0.mk (below_step (Hb HB.out) hb); clear HO148; clear HO152; clear HO155; clear BK149; clear HB; have HO148 := n0_; have HO152 := n1_; have HO155 := n2_; have HO159 := n3_; have BK149 := n4_; have HB := n5_; clear n0_ n1_ n2_ n3_ n4_ n5_; (try clear hb); (try clear hb2); (try clear hk); (try clear hi); (try clear ho0); have hcz38_0 : w37.cell? ⟨gb149, 0, none⟩ = some (.int .u64 t145) := (blk_cell BK149.out 0).trans rfl; have hcz38_1 : w37.cell? ⟨gb149, 1, none⟩ = some (.slice Ao28 t146.length co28) := (blk_cell BK149.out 1).trans rfl; have hfz38_0 := blk_frozen BK149.out 0; have hfz38_1 := blk_frozen BK149.out 1) | ((with_reducible refine gate_dst (N := 20) rfl ?_); (try (refine gate_guard (by rfl) ?_; dsimp only)); refine Kd.R_lit (Kd.int .i64) _ 3 ?hg (N := 20) ?hd (xs := ([8] : List Int)) (inner := [.int .i64 8]) (ok := fun _ => True) (okp := fun _ => True) ?hr ?hp (fun _ hk => hk) trivial (Below.refl _ _) (Nat.le_refl _) (by simp) ?_; (case hd => rfl); (case hg => rfl); (case hr => first | (go_simp; done) | (go_simp; rfl)); (case hp => exact (Reps.one (show Kd.M (Kd.int .i64) _ _ _ 8 [.int .i64 8] from rfl) (Reps.none _ _))); intro v161 w39 ho40 hb hg_ hnew_; clear hg_ hnew_; (first | rw [← Ny160.out] at ho40 | (simp only [Int.reduceToNat] at ho40; rw [← Ny160.out] at ho40)); have n0_ := Aside0.mk (Kd.V_elder' (Vb HO148.out) (Kd.R_base ho40) hb); have n1_ := Aside0.mk (Kd.N_elder' (Nb HO152.out) (Kd.R_base ho40) hb); have n2_ := Aside0.mk (Kd.R_elder' (Rb HO155.out) (Kd.R_base ho40) hb); have n3_ := Aside0.mk (Kd.R_below (Rb HO159.out) hb); have n4_ := Aside0.mk (Kd.R_lower (Kd.R_new' ho40 (Kd.R_lt (Rb HO155.out))) (below_size (Hb HB.out))); have n5_ := Aside0.mk (blk_below (Bb BK149.out) hb); have n6_ := Aside0.mk (below_step (Hb HB.out) hb); clear HO148; clear HO152; clear HO155; clear HO159; clear BK149; clear HB; have HO148 := n0_; have HO152 := n1_; have HO155 := n2_; have HO159 := n3_; have HO162 := n4_; have BK149 := n5_; have HB := n6_; clear n0_ n1_ n2_ n3_ n4_ n5_ n6_; clear hb ho40; obtain ⟨Ao41, co41, eo41⟩ := Kd.R_slice HO162.out; subst eo41) | ((with_reducible refine gate_callee (f := 22) rfl ?_); refine goesL_ (some 21) rfl rfl Try.func22 (by kernel_rfl) rfl #[.slice Ao28 t146.length co28, .int .i64 3, .int .i64 3, .slice Ao41 y160.length co41] rfl (by (try simp only [List.map_toArray, List.map_cons, List.map_nil]); first | done | rfl | (simp only [List.length_drop, List.length_take]; rfl)) ?_; (with_reducible refine (stripe_Pick.calls _ _ t146 3 3 _ _ y160 t163 t164 _ ?side1 ?side2 ?side3 ?side4 A3.out).mono ?_); (case side1 => exact Cb (Kd.V_reads' HO148.out).2.2); (case side2 => exact (Kd.V_reads' HO148.out).2.1); (case side3 => exact Cb (Kd.R_reads' HO162.out).2.2); (case side4 => exact (Kd.R_reads' HO162.out).2.1); rintro e w42 ⟨v165, rfl, ho0, hb⟩; refine ⟨_, rfl, ?_⟩; have n0_ := Aside0.mk (Kd.V_elder' (Vb HO148.out) (Kd.R_base ho0) hb); have n1_ := Aside0.mk (Kd.N_elder' (Nb HO152.out) (Kd.R_base ho0) hb); have n2_ := Aside0.mk (Kd.R_below (Rb HO155.out) hb); have n3_ := Aside0.mk (Kd.R_elder' (Rb HO159.out) (Kd.R_base ho0) hb); have n4_ := Aside0.mk (Kd.R_below (Rb HO162.out) hb); have n5_ := Aside0.mk (Kd.R_lower (Kd.R_new' ho0 (Kd.R_lt (Rb HO159.out))) (below_size (Hb HB.out))); have n6_ := Aside0.mk (blk_below (Bb BK149.out) hb); have n7_ := Aside0.mk (below_step (Hb HB.out) hb); clear HO148; clear HO152; clear HO155; clear HO159; clear HO162; clear BK149; clear HB; have HO148 := n0_; have HO152 := n1_; have HO155 := n2_; have HO159 := n3_; have HO162 := n4_; have HO166 := n5_; have BK149 := n6_; have HB := n7_; clear n0_ n1_ n2_ n3_ n4_ n5_ n6_ n7_; (try clear hb); (try clear hb2); (try clear hk); (try clear hi); (try clear ho0)))
                      have n0_ := Aside0.mk (Kd.V_drew HO148.out)
                      have n1_ := Aside0.mk (Kd.N_drew HO152.out)
                      have n2_ := Aside0.mk (Kd.R_drew HO155.out)
                      have n3_ := Aside0.mk (Kd.R_drew HO159.out)
                      have n4_ := Aside0.mk (Kd.R_drew HO162.out)
                      have n5_ := Aside0.mk (Kd.R_drew HO166.out)
                      have n6_ := Aside0.mk (blk_drew BK149.out)
                      have n7_ := Aside0.mk (below_drew1 HB.out)
                      clear HO148
                      clear HO152
                      clear HO155
                      clear HO159
                      clear HO162
                      clear HO166
                      clear BK149
                      clear HB
                      have HO148 := n0_
                      have HO152 := n1_
                      have HO155 := n2_
                      have HO159 := n3_
                      have HO162 := n4_
                      have HO166 := n5_
                      have BK149 := n6_
                      have HB := n7_
                      clear n0_ n1_ n2_ n3_ n4_ n5_ n6_ n7_
                      have q44 : (2 : Int) ≤ ((t146.length : Int) : Int) := of_decide_eq_true (by first | (with_reducible assumption) | assumption)
                      obtain ⟨i044, hi044, _, hsz44, _⟩ := info_parts info32
                      have hroom44 : t146.length ≤ co28 := (Kd.V_reads' HO148.out).2.1
                      have hC44 : Kd.F k32 _ _ Ao28 t146.length t146 := (Kd.V_at (base := w.heap.size) HO148.out).2.2
                      have hcut44 := cut_to (P := Try.prog) 23 32 .i64 Try.underlying23 hi044 Ao28 t146.length co28 2 (by omega) q44 hroom44
                      have hr44 := Kd.F_take (m := 2) hC44 (by omega)
                      have hy44 : y170.length = (2 : Int).toNat := (by rw [Ny170.out, List.length_take]; omega)
                      rw [← Ny170.out] at hr44
                      rw [← hy44] at hcut44
                      have HO174 := Aside0.mk (show Kd.V k32 32 _ w.heap.size _ (.slice Ao28 y170.length co28) y170 from Kd.V_mk (by omega) hr44)
                      have HC174 := Aside0.mk (show y170.length ≤ co28 from by omega)
                      clear hr44 hC44 hroom44 hi044 hsz44
                      have KY44 := Aside0.mk hy44
                      clear hy44
                      replace q44 := eq_true q44
                      obtain ⟨Ao45, co45, eo45⟩ := Kd.N_slice HO152.out
                      (first | subst eo45 | (injection eo45 with f1_ f2_ f3_; have f4_ := f1_.symm; have f5_ := f3_.symm; clear f1_ f2_ f3_; subst f4_; subst f5_))
                      have p197 : 0 ≤ (1 : Int) := (by omega)
                      have q197 : 1 < (t156.length : Int) := of_decide_eq_true (by first | (with_reducible assumption) | assumption)
                      try (obtain ⟨Aoz_, coz_, eoz_⟩ := Kd.R_slice HO159.out; subst eoz_)
                      obtain ⟨ad197, e197, hx197_0, hx197_1⟩ := at_T32 (Kd.R_reads' HO159.out).2.2 1 p197 q197
                      cases e197
                      (try simp only [show (1 : Int).toNat = 1 from rfl, Nat.reduceMul, Nat.reduceEqDiff, Go.Addr.add, ↓reduceIte] at hx197_0)
                      (try simp only [show (1 : Int).toNat = 1 from rfl, Nat.reduceMul, Nat.reduceEqDiff, Go.Addr.add, ↓reduceIte] at hx197_1)
                      have qi197 : (1 < t156.length) = True := eq_true (by omega)
                      (try rw [show ((1 : Int)).toNat = 1 from rfl] at hx197_0)
                      (try rw [show 1 * 2 = 2 from rfl] at hx197_0)
                      (try rw [show ((1 : Int)).toNat = 1 from rfl] at hx197_1)
                      (try rw [show 1 * 2 = 2 from rfl] at hx197_1)
                      replace p197 := eq_true p197
                      replace q197 := eq_true q197
                      refine start_ (n := 54) (S := fun w' => w'.cell? ⟨gb149, 0, none⟩ = some (.int .u64 t145) ∧ w'.cell? ⟨gb149, 1, none⟩ = some (.slice Ao28 t146.length co28) ∧ w'.cell? ⟨ad197.block, ad197.off + 2, none⟩ = some (.int .i64 ((rd_T32 t156 1).f0)) ∧ w'.cell? ⟨ad197.block, ad197.off + 2 + 1, none⟩ = some (.int .u64 ((rd_T32 t156 1).f1))) (ds := []) #[false, false, false, false, false, false, false, false, false, false, false, false, false, false, false, false, false, false, false, false, false, false, false, false, false, false, false, false, false, false, false, false, false, false, false, false, false, false, false, false, false, false, false, false, false, false, false, false, false, false, false, false, false, false] (by kernel_rfl) rfl rfl ⟨(blk_cell BK149.out 0).trans rfl, (blk_cell BK149.out 1).trans rfl, hx197_0, hx197_1⟩ (fun hHeld => ?_); refine with_tabW awakeP14.tab5 awakeP14.bits5 (fun HT_ HW_ => ?_)
                      generalize w42.drew = w43 at HO148 HO152 HO155 HO159 HO162 HO166 BK149 HB HO174 hx197_0 hx197_1 hHeld ⊢
                      refine pure_ (i := 0) (N := some 24) (v := ?_) (a' := ?_) #[true, false, false, false, false, false, false, false, false, false, false, false, false, false, false, false, false, false, false, false, false, false, false, false, false, false, false, false, false, false, false, false, false, false, false, false, false, false, false, false, false, false, false, false, false, false, false, false, false, false, false, false, false, false] rfl rfl (any_of HT_.out (by kernel_rfl)) (fun _ _ _ h => h) (Or.inl ⟨by rfl, ?_⟩) ?_ ?_
                      rotate_left
                      · intro w'
                        go_simp
                        with_reducible rfl
                      rotate_left
                      · simp only [Act.put, List.setIfInBounds_toArray, List.set_cons_zero, List.set_cons_succ, i64_w, i32_w]
                        rfl
                      refine pure_ (i := 2) (N := some 26) (v := ?_) (a' := ?_) #[true, false, true, false, false, false, false, false, false, false, false, false, false, false, false, false, false, false, false, false, false, false, false, false, false, false, false, false, false, false, false, false, false, false, false, false, false, false, false, false, false, false, false, false, false, false, false, false, false, false, false, false, false, false] rfl rfl (any_of HT_.out (by kernel_rfl)) (fun _ _ _ h => h) (Or.inl ⟨by rfl, ?_⟩) ?_ ?_
                      rotate_left
                      · intro w'
                        go_simp
                        with_reducible rfl
                      rotate_left
                      · simp only [Act.put, List.setIfInBounds_toArray, List.set_cons_zero, List.set_cons_succ, i64_w, i32_w]
                        rfl
                      refine take_ (i := 3) (N := some 27) (v := ?_) (a' := ?_) #[true, false, true, true, false, false, false, false, false, false, false, false, false, false, false, false, false, false, false, false, false, false, false, false, false, false, false, false, false, false, false, false, false, false, false, false, false, false, false, false, false, false, false, false, false, false, false, false, false, false, false, false, false, false] rfl rfl (take_ofW HT_.out HW_.out (by kernel_rfl)) (fun _ _ _ h => h) (Or.inl ⟨by rfl, ?_⟩) hHeld ?_ ?_
                      rotate_left
                      · rintro w' ⟨s0, s1, s2, s3⟩
                        go_simp
                        with_reducible rfl
                      rotate_left
                      · simp only [Act.put, List.setIfInBounds_toArray, List.set_cons_zero, List.set_cons_succ, i64_w, i32_w]
                        rfl
                      refine pure_ (i := 4) (N := some 28) (v := ?_) (a' := ?_) #[true, false, true, true, true, false, false, false, false, false, false, false, false, false, false, false, false, false, false, false, false, false, false, false, false, false, false, false, false, false, false, false, false, false, false, false, false, false, false, false, false, false, false, false, false, false, false, false, false, false, false, false, false, false] rfl rfl (any_of HT_.out (by kernel_rfl)) (fun _ _ _ h => h) (Or.inl ⟨by rfl, ?_⟩) ?_ ?_
                      rotate_left
                      · intro w'
                        go_simp
                        with_reducible rfl
                      rotate_left
                      · simp only [Act.put, List.setIfInBounds_toArray, List.set_cons_zero, List.set_cons_succ, i64_w, i32_w]
                        rfl
                      refine one_ (i := 1) (N := some 25) #[true, true, true, true, true, false, false, false, false, false, false, false, false, false, false, false, false, false, false, false, false, false, false, false, false, false, false, false, false, false, false, false, false, false, false, false, false, false, false, false, false, false, false, false, false, false, false, false, false, false, false, false, false, false] rfl rfl (one_of HT_.out (by kernel_rfl)) (by decide) (fun K hK => ?_)
                      refine goes_ Try.func13 (by kernel_rfl) rfl #[.slice Ao45 y150.length co45, .int .i64 2, .int .u64 3] (by rfl) rfl rfl (by (try simp only [List.map_toArray, List.map_cons, List.map_nil]); first | done | rfl | (simp only [List.length_drop, List.length_take]; rfl)) ?_
                      with_reducible refine (stripe_Set.calls k _ _ y150 2 3 t167 _ ?side1 ?side2 A4.out).mono ?_
                      (case side1 => exact Cb (Kd.N_reads' HO152.out).2.2)
                      (case side2 => exact (Kd.N_reads' HO152.out).2.1)
                      rintro e w46 ⟨v168, rfl, ho0, hb⟩
                      have HS2_ := (hb.cell (World.block_lt_of_cell? _ _ (hHeld.2.2.1))).trans (hHeld.2.2.1)
                      have HS3_ := (hb.cell (World.block_lt_of_cell? _ _ (hHeld.2.2.2))).trans (hHeld.2.2.2)
                      refine ⟨_, rfl, ?_⟩
                      have n0_ := Aside0.mk (Kd.V_elder' (Vb HO148.out) (Kd.R_base ho0) hb)
                      have n1_ := Aside0.mk (Kd.N_elder' (Nb HO152.out) (Kd.R_base ho0) hb)
                      have n2_ := Aside0.mk (Kd.R_below (Rb HO155.out) hb)
                      have n3_ := Aside0.mk (Kd.R_elder' (Rb HO159.out) (Kd.R_base ho0) hb)
                      have n4_ := Aside0.mk (Kd.R_below (Rb HO162.out) hb)
                      have n5_ := Aside0.mk (Kd.R_elder' (Rb HO166.out) (Kd.R_base ho0) hb)
                      have n6_ := Aside0.mk (Kd.V_elder' (Vb HO174.out) (Kd.R_base ho0) hb)
                      have n7_ := Aside0.mk (Kd.R_lower (Kd.R_new' (Kd.R_new' ho0 (Kd.R_lt (Rb HO159.out))) (Kd.R_lt (Rb HO166.out))) (below_size (Hb HB.out)))
                      have n8_ := Aside0.mk (blk_below (Bb BK149.out) hb)
                      have n9_ := Aside0.mk (below_step (Hb HB.out) hb)
                      clear HO148
                      clear HO152
                      clear HO155
                      clear HO159
                      clear HO162
                      clear HO166
                      clear HO174
                      clear BK149
                      clear HB
                      have HO148 := n0_
                      have HO152 := n1_
                      have HO155 := n2_
                      have HO159 := n3_
                      have HO162 := n4_
                      have HO166 := n5_
                      have HO174 := n6_
                      have HO169 := n7_
                      have BK149 := n8_
                      have HB := n9_
                      clear n0_ n1_ n2_ n3_ n4_ n5_ n6_ n7_ n8_ n9_
                      (try clear hb)
                      (try clear hb2)
                      (try clear hk)
                      (try clear hi)
                      (try clear ho0)
                      obtain ⟨Ao47, co47, eo47⟩ := Kd.R_slice HO169.out
                      (first | subst eo47 | (injection eo47 with f1_ f2_ f3_; have f4_ := f1_.symm; have f5_ := f3_.symm; clear f1_ f2_ f3_; subst f4_; subst f5_))
                      refine hK.out _ _ ⟨(blk_cell BK149.out 0).trans rfl, (blk_cell BK149.out 1).trans rfl, HS2_, HS3_⟩ (fun hHeld => ?_)
                      clear hK K
                      refine norm_ (a' := ?_) ?_ ?_
                      rotate_left
                      · show Act.put _ (some 25) _ = _
                        simp only [Act.put, List.setIfInBounds_toArray, List.set_cons_zero, List.set_cons_succ, i64_w, i32_w]
                        rfl
                      refine one_ (i := 5) (N := some 29) #[true, true, true, true, true, true, false, false, false, false, false, false, false, false, false, false, false, false, false, false, false, false, false, false, false, false, false, false, false, false, false, false, false, false, false, false, false, false, false, false, false, false, false, false, false, false, false, false, false, false, false, false, false, false] rfl rfl (one_of HT_.out (by kernel_rfl)) (by decide) (fun K hK => ?_)
                      refine goes_ Try.func16 (by kernel_rfl) rfl #[.slice Ao47 t167.length co47, .slice Ao28 y170.length co28] (by rfl) rfl rfl (by (try simp only [List.map_toArray, List.map_cons, List.map_nil]); first | done | rfl | (simp only [List.length_drop, List.length_take]; rfl)) ?_
                      with_reducible refine (scrivenerref14_Same.calls k _ _ t167 _ _ y170 true _ ?side1 ?side2 ?side3 ?side4 A6.out).mono ?_
                      (case side1 => exact Cb (Kd.R_reads' HO169.out).2.2)
                      (case side2 => exact (Kd.R_reads' HO169.out).2.1)
                      (case side3 => exact Cb (Kd.V_reads' HO174.out).2.2)
                      (case side4 => exact (Kd.V_reads' HO174.out).2.1)
                      rintro e w' ⟨rfl, ⟨nd, rfl⟩⟩
                      refine ⟨_, rfl, ?_⟩
                      refine hK.out _ _ ⟨(blk_cell BK149.out 0).trans rfl, (blk_cell BK149.out 1).trans rfl, hHeld.2.2.1, hHeld.2.2.2⟩ (fun hHeld => ?_)
                      clear hK K
                      refine norm_ (a' := ?_) ?_ ?_
                      rotate_left
                      · show Act.put _ (some 29) _ = _
                        simp only [Act.put, List.setIfInBounds_toArray, List.set_cons_zero, List.set_cons_succ, i64_w, i32_w]
                        rfl
                      refine pure_ (i := 6) (N := some 30) (v := ?_) (a' := ?_) #[true, true, true, true, true, true, true, false, false, false, false, false, false, false, false, false, false, false, false, false, false, false, false, false, false, false, false, false, false, false, false, false, false, false, false, false, false, false, false, false, false, false, false, false, false, false, false, false, false, false, false, false, false, false] rfl rfl (any_of HT_.out (by kernel_rfl)) (fun _ _ _ h => h) (Or.inl ⟨by rfl, ?_⟩) ?_ ?_
                      rotate_left
                      · intro w'
                        go_simp
                        with_reducible rfl
                      rotate_left
                      · simp only [Act.put, List.setIfInBounds_toArray, List.set_cons_zero, List.set_cons_succ, i64_w, i32_w]
                        rfl
                      refine pure_ (i := 7) (N := some 31) (v := ?_) (a' := ?_) #[true, true, true, true, true, true, true, true, false, false, false, false, false, false, false, false, false, false, false, false, false, false, false, false, false, false, false, false, false, false, false, false, false, false, false, false, false, false, false, false, false, false, false, false, false, false, false, false, false, false, false, false, false, false] rfl rfl (any_of HT_.out (by kernel_rfl)) (fun _ _ _ h => h) (Or.inl ⟨by rfl, ?_⟩) ?_ ?_
                      rotate_left
                      · intro w'
                        go_simp
                        with_reducible rfl
                      rotate_left
                      · simp only [Act.put, List.setIfInBounds_toArray, List.set_cons_zero, List.set_cons_succ, i64_w, i32_w]
                        rfl
                      refine one_ (i := 8) (N := some 32) #[true, true, true, true, true, true, true, true, true, false, false, false, false, false, false, false, false, false, false, false, false, false, false, false, false, false, false, false, false, false, false, false, false, false, false, false, false, false, false, false, false, false, false, false, false, false, false, false, false, false, false, false, false, false] rfl rfl (one_of HT_.out (by kernel_rfl)) (by decide) (fun K hK => ?_)
                      refine goes_ Try.func13 (by kernel_rfl) rfl #[.slice Ao45 y150.length co45, .int .i64 2, .int .u64 5] (by rfl) rfl rfl (by (try simp only [List.map_toArray, List.map_cons, List.map_nil]); first | done | rfl | (simp only [List.length_drop, List.length_take]; rfl)) ?_
                      with_reducible refine (stripe_Set.calls k _ _ y150 2 5 t176 _ ?side1 ?side2 A8.out).mono ?_
                      (case side1 => exact Cb (Kd.N_reads' HO152.out).2.2)
                      (case side2 => exact (Kd.N_reads' HO152.out).2.1)
                      rintro e w48 ⟨v177, rfl, ho0, hb⟩
                      have HS2_ := (hb.cell (World.block_lt_of_cell? _ _ (hHeld.2.2.1))).trans (hHeld.2.2.1)
                      have HS3_ := (hb.cell (World.block_lt_of_cell? _ _ (hHeld.2.2.2))).trans (hHeld.2.2.2)
                      refine ⟨_, rfl, ?_⟩
                      have n0_ := Aside0.mk (Kd.V_elder' (Vb HO148.out) (Kd.R_base ho0) hb)
                      have n1_ := Aside0.mk (Kd.N_elder' (Nb HO152.out) (Kd.R_base ho0) hb)
                      have n2_ := Aside0.mk (Kd.R_below (Rb HO155.out) hb)
                      have n3_ := Aside0.mk (Kd.R_elder' (Rb HO159.out) (Kd.R_base ho0) hb)
                      have n4_ := Aside0.mk (Kd.R_below (Rb HO162.out) hb)
                      have n5_ := Aside0.mk (Kd.R_elder' (Rb HO166.out) (Kd.R_base ho0) hb)
                      have n6_ := Aside0.mk (Kd.V_elder' (Vb HO174.out) (Kd.R_base ho0) hb)
                      have n7_ := Aside0.mk (Kd.R_elder' (Rb HO169.out) (Kd.R_base ho0) hb)
                      have n8_ := Aside0.mk (Kd.R_lower (Kd.R_new' (Kd.R_new' (Kd.R_new' ho0 (Kd.R_lt (Rb HO159.out))) (Kd.R_lt (Rb HO166.out))) (Kd.R_lt (Rb HO169.out))) (below_size (Hb HB.out)))
                      have n9_ := Aside0.mk (blk_below (Bb BK149.out) hb)
                      have n10_ := Aside0.mk (below_step (Hb HB.out) hb)
                      clear HO148
                      clear HO152
                      clear HO155
                      clear HO159
                      clear HO162
                      clear HO166
                      clear HO174
                      clear HO169
                      clear BK149
                      clear HB
                      have HO148 := n0_
                      have HO152 := n1_
                      have HO155 := n2_
                      have HO159 := n3_
                      have HO162 := n4_
                      have HO166 := n5_
                      have HO174 := n6_
                      have HO169 := n7_
                      have HO178 := n8_
                      have BK149 := n9_
                      have HB := n10_
                      clear n0_ n1_ n2_ n3_ n4_ n5_ n6_ n7_ n8_ n9_ n10_
                      (try clear hb)
                      (try clear hb2)
                      (try clear hk)
                      (try clear hi)
                      (try clear ho0)
                      refine hK.out _ _ ⟨(blk_cell BK149.out 0).trans rfl, (blk_cell BK149.out 1).trans rfl, HS2_, HS3_⟩ (fun hHeld => ?_)
                      clear hK K
                      refine norm_ (a' := ?_) ?_ ?_
                      rotate_left
                      · show Act.put _ (some 32) _ = _
                        simp only [Act.put, List.setIfInBounds_toArray, List.set_cons_zero, List.set_cons_succ, i64_w, i32_w]
                        rfl
                      refine one_ (i := 9) (N := some 33) #[true, true, true, true, true, true, true, true, true, true, false, false, false, false, false, false, false, false, false, false, false, false, false, false, false, false, false, false, false, false, false, false, false, false, false, false, false, false, false, false, false, false, false, false, false, false, false, false, false, false, false, false, false, false] rfl rfl (one_of HT_.out (by kernel_rfl)) (by decide) (fun K hK => ?_)
                      refine goes_ Try.func34 (by kernel_rfl) rfl #[.int .i64 9] (by rfl) rfl rfl (by (try simp only [List.map_toArray, List.map_cons, List.map_nil]); first | done | rfl | (simp only [List.length_drop, List.length_take]; rfl)) ?_
                      with_reducible refine (scrivenerlaw14_place.calls 9 t179 t180 _ A9.out).mono ?_
                      rintro e w49 ⟨rfl, hb⟩
                      have HS2_ := (hb.cell (World.block_lt_of_cell? _ _ (hHeld.2.2.1))).trans (hHeld.2.2.1)
                      have HS3_ := (hb.cell (World.block_lt_of_cell? _ _ (hHeld.2.2.2))).trans (hHeld.2.2.2)
                      refine ⟨_, rfl, ?_⟩
                      have n0_ := Aside0.mk (Kd.V_below (Vb HO148.out) hb)
                      have n1_ := Aside0.mk (Kd.N_below (Nb HO152.out) hb)
                      have n2_ := Aside0.mk (Kd.R_below (Rb HO155.out) hb)
                      have n3_ := Aside0.mk (Kd.R_below (Rb HO159.out) hb)
                      have n4_ := Aside0.mk (Kd.R_below (Rb HO162.out) hb)
                      have n5_ := Aside0.mk (Kd.R_below (Rb HO166.out) hb)
                      have n6_ := Aside0.mk (Kd.V_below (Vb HO174.out) hb)
                      have n7_ := Aside0.mk (Kd.R_below (Rb HO169.out) hb)
                      have n8_ := Aside0.mk (Kd.R_below (Rb HO178.out) hb)
                      have n9_ := Aside0.mk (blk_below (Bb BK149.out) hb)
                      have n10_ := Aside0.mk (below_step (Hb HB.out) hb)
                      clear HO148
                      clear HO152
                      clear HO155
                      clear HO159
                      clear HO162
                      clear HO166
                      clear HO174
                      clear HO169
                      clear HO178
                      clear BK149
                      clear HB
                      have HO148 := n0_
                      have HO152 := n1_
                      have HO155 := n2_
                      have HO159 := n3_
                      have HO162 := n4_
                      have HO166 := n5_
                      have HO174 := n6_
                      have HO169 := n7_
                      have HO178 := n8_
                      have BK149 := n9_
                      have HB := n10_
                      clear n0_ n1_ n2_ n3_ n4_ n5_ n6_ n7_ n8_ n9_ n10_
                      (try clear hb)
                      (try clear hb2)
                      (try clear hk)
                      (try clear hi)
                      refine hK.out _ _ ⟨(blk_cell BK149.out 0).trans rfl, (blk_cell BK149.out 1).trans rfl, HS2_, HS3_⟩ (fun hHeld => ?_)
                      clear hK K
                      refine norm_ (a' := ?_) ?_ ?_
                      rotate_left
                      · show Act.put _ (some 33) _ = _
                        simp only [Act.put, List.setIfInBounds_toArray, List.set_cons_zero, List.set_cons_succ, i64_w, i32_w]
                        rfl
                      refine one_ (i := 10) (N := some 34) #[true, true, true, true, true, true, true, true, true, true, true, false, false, false, false, false, false, false, false, false, false, false, false, false, false, false, false, false, false, false, false, false, false, false, false, false, false, false, false, false, false, false, false, false, false, false, false, false, false, false, false, false, false, false] rfl rfl (one_of HT_.out (by kernel_rfl)) (by decide) (fun K hK => ?_)
                      refine goes_ Try.func34 (by kernel_rfl) rfl #[.int .i64 7] (by rfl) rfl rfl (by (try simp only [List.map_toArray, List.map_cons, List.map_nil]); first | done | rfl | (simp only [List.length_drop, List.length_take]; rfl)) ?_
                      with_reducible refine (scrivenerlaw14_place.calls 7 t181 t182 _ A10.out).mono ?_
                      rintro e w50 ⟨rfl, hb⟩
                      have HS2_ := (hb.cell (World.block_lt_of_cell? _ _ (hHeld.2.2.1))).trans (hHeld.2.2.1)
                      have HS3_ := (hb.cell (World.block_lt_of_cell? _ _ (hHeld.2.2.2))).trans (hHeld.2.2.2)
                      refine ⟨_, rfl, ?_⟩
                      have n0_ := Aside0.mk (Kd.V_below (Vb HO148.out) hb)
                      have n1_ := Aside0.mk (Kd.N_below (Nb HO152.out) hb)
                      have n2_ := Aside0.mk (Kd.R_below (Rb HO155.out) hb)
                      have n3_ := Aside0.mk (Kd.R_below (Rb HO159.out) hb)
                      have n4_ := Aside0.mk (Kd.R_below (Rb HO162.out) hb)
                      have n5_ := Aside0.mk (Kd.R_below (Rb HO166.out) hb)
                      have n6_ := Aside0.mk (Kd.V_below (Vb HO174.out) hb)
                      have n7_ := Aside0.mk (Kd.R_below (Rb HO169.out) hb)
                      have n8_ := Aside0.mk (Kd.R_below (Rb HO178.out) hb)
                      have n9_ := Aside0.mk (blk_below (Bb BK149.out) hb)
                      have n10_ := Aside0.mk (below_step (Hb HB.out) hb)
                      clear HO148
                      clear HO152
                      clear HO155
                      clear HO159
                      clear HO162
                      clear HO166
                      clear HO174
                      clear HO169
                      clear HO178
                      clear BK149
                      clear HB
                      have HO148 := n0_
                      have HO152 := n1_
                      have HO155 := n2_
                      have HO159 := n3_
                      have HO162 := n4_
                      have HO166 := n5_
                      have HO174 := n6_
                      have HO169 := n7_
                      have HO178 := n8_
                      have BK149 := n9_
                      have HB := n10_
                      clear n0_ n1_ n2_ n3_ n4_ n5_ n6_ n7_ n8_ n9_ n10_
                      (try clear hb)
                      (try clear hb2)
                      (try clear hk)
                      (try clear hi)
                      refine hK.out _ _ ⟨(blk_cell BK149.out 0).trans rfl, (blk_cell BK149.out 1).trans rfl, HS2_, HS3_⟩ (fun hHeld => ?_)
                      clear hK K
                      refine norm_ (a' := ?_) ?_ ?_
                      rotate_left
                      · show Act.put _ (some 34) _ = _
                        simp only [Act.put, List.setIfInBounds_toArray, List.set_cons_zero, List.set_cons_succ, i64_w, i32_w]
                        rfl
                      refine one_ (i := 11) (N := some 35) #[true, true, true, true, true, true, true, true, true, true, true, true, false, false, false, false, false, false, false, false, false, false, false, false, false, false, false, false, false, false, false, false, false, false, false, false, false, false, false, false, false, false, false, false, false, false, false, false, false, false, false, false, false, false] rfl rfl (one_of HT_.out (by kernel_rfl)) (by decide) (fun K hK => ?_)
                      refine Kd.R_lit_step k32 _ 32 ?hg (N := 35) ?hd (xs := ([(⟨t179, t180⟩ : S32), (⟨t181, t182⟩ : S32)] : List (S32))) (inner := [.int .i64 t179, .int .u64 t180, .int .i64 t181, .int .u64 t182]) (ok := fun _ => True) (okp := fun _ => True) ?hr ?hp (fun _ hk => hk) trivial (Below.refl _ _) (Nat.le_refl _) (by simp) ?_; (case hd => rfl); (case hg => rfl); (case hr => first | (go_simp; done) | (go_simp; rfl)); (case hp => exact (Reps.c2 (show Kd.M k32 _ _ _ (⟨t179, t180⟩ : S32) [.int .i64 t179, .int .u64 t180] from (k32_mkM _ _ _ (⟨t179, t180⟩ : S32) )) (Reps.c2 (show Kd.M k32 _ _ _ (⟨t181, t182⟩ : S32) [.int .i64 t181, .int .u64 t182] from (k32_mkM _ _ _ (⟨t181, t182⟩ : S32) )) (Reps.none _ _))))
                      intro v184 w51 ho52 hb hg_ hnew_
                      have HS2_ := (hb.cell (World.block_lt_of_cell? _ _ (hHeld.2.2.1))).trans (hHeld.2.2.1)
                      have HS3_ := (hb.cell (World.block_lt_of_cell? _ _ (hHeld.2.2.2))).trans (hHeld.2.2.2)
                      clear hg_ hnew_
                      (first | rw [← Ny183.out] at ho52 | (simp only [Int.reduceToNat] at ho52; rw [← Ny183.out] at ho52))
                      have n0_ := Aside0.mk (Kd.V_elder' (Vb HO148.out) (Kd.R_base ho52) hb)
                      have n1_ := Aside0.mk (Kd.N_elder' (Nb HO152.out) (Kd.R_base ho52) hb)
                      have n2_ := Aside0.mk (Kd.R_below (Rb HO155.out) hb)
                      have n3_ := Aside0.mk (Kd.R_elder' (Rb HO159.out) (Kd.R_base ho52) hb)
                      have n4_ := Aside0.mk (Kd.R_below (Rb HO162.out) hb)
                      have n5_ := Aside0.mk (Kd.R_elder' (Rb HO166.out) (Kd.R_base ho52) hb)
                      have n6_ := Aside0.mk (Kd.V_elder' (Vb HO174.out) (Kd.R_base ho52) hb)
                      have n7_ := Aside0.mk (Kd.R_elder' (Rb HO169.out) (Kd.R_base ho52) hb)
                      have n8_ := Aside0.mk (Kd.R_elder' (Rb HO178.out) (Kd.R_base ho52) hb)
                      have n9_ := Aside0.mk (Kd.R_lower (Kd.R_new' (Kd.R_new' (Kd.R_new' (Kd.R_new' ho52 (Kd.R_lt (Rb HO159.out))) (Kd.R_lt (Rb HO166.out))) (Kd.R_lt (Rb HO169.out))) (Kd.R_lt (Rb HO178.out))) (below_size (Hb HB.out)))
                      have n10_ := Aside0.mk (blk_below (Bb BK149.out) hb)
                      have n11_ := Aside0.mk (below_step (Hb HB.out) hb)
                      clear HO148
                      clear HO152
                      clear HO155
                      clear HO159
                      clear HO162
                      clear HO166
                      clear HO174
                      clear HO169
                      clear HO178
                      clear BK149
                      clear HB
                      have HO148 := n0_
                      have HO152 := n1_
                      have HO155 := n2_
                      have HO159 := n3_
                      have HO162 := n4_
                      have HO166 := n5_
                      have HO174 := n6_
                      have HO169 := n7_
                      have HO178 := n8_
                      have HO185 := n9_
                      have BK149 := n10_
                      have HB := n11_
                      clear n0_ n1_ n2_ n3_ n4_ n5_ n6_ n7_ n8_ n9_ n10_ n11_
                      clear hb ho52
                      obtain ⟨Ao53, co53, eo53⟩ := Kd.R_slice HO178.out
                      (first | subst eo53 | (injection eo53 with f1_ f2_ f3_; have f4_ := f1_.symm; have f5_ := f3_.symm; clear f1_ f2_ f3_; subst f4_; subst f5_))
                      obtain ⟨Ao54, co54, eo54⟩ := Kd.R_slice HO185.out
                      (first | subst eo54 | (injection eo54 with f1_ f2_ f3_; have f4_ := f1_.symm; have f5_ := f3_.symm; clear f1_ f2_ f3_; subst f4_; subst f5_))
                      refine hK.out _ _ ⟨(blk_cell BK149.out 0).trans rfl, (blk_cell BK149.out 1).trans rfl, HS2_, HS3_⟩ (fun hHeld => ?_)
                      clear hK K
                      refine norm_ (a' := ?_) ?_ ?_
                      rotate_left
                      · show Act.put _ (some 35) _ = _
                        simp only [Act.put, List.setIfInBounds_toArray, List.set_cons_zero, List.set_cons_succ, i64_w, i32_w]
                        rfl
                      refine one_ (i := 12) (N := some 36) #[true, true, true, true, true, true, true, true, true, true, true, true, true, false, false, false, false, false, false, false, false, false, false, false, false, false, false, false, false, false, false, false, false, false, false, false, false, false, false, false, false, false, false, false, false, false, false, false, false, false, false, false, false, false] rfl rfl (one_of HT_.out (by kernel_rfl)) (by decide) (fun K hK => ?_)
                      refine goes_ Try.func16 (by kernel_rfl) rfl #[.slice Ao53 t176.length co53, .slice Ao54 y183.length co54] (by rfl) rfl rfl (by (try simp only [List.map_toArray, List.map_cons, List.map_nil]); first | done | rfl | (simp only [List.length_drop, List.length_take]; rfl)) ?_
                      with_reducible refine (scrivenerref14_Same.calls k _ _ t176 _ _ y183 true _ ?side1 ?side2 ?side3 ?side4 A11.out).mono ?_
                      (case side1 => exact Cb (Kd.R_reads' HO178.out).2.2)
                      (case side2 => exact (Kd.R_reads' HO178.out).2.1)
                      (case side3 => exact Cb (Kd.R_reads' HO185.out).2.2)
                      (case side4 => exact (Kd.R_reads' HO185.out).2.1)
                      rintro e w' ⟨rfl, ⟨nd, rfl⟩⟩
                      refine ⟨_, rfl, ?_⟩
                      refine hK.out _ _ ⟨(blk_cell BK149.out 0).trans rfl, (blk_cell BK149.out 1).trans rfl, hHeld.2.2.1, hHeld.2.2.2⟩ (fun hHeld => ?_)
                      clear hK K
                      refine norm_ (a' := ?_) ?_ ?_
                      rotate_left
                      · show Act.put _ (some 36) _ = _
                        simp only [Act.put, List.setIfInBounds_toArray, List.set_cons_zero, List.set_cons_succ, i64_w, i32_w]
                        rfl
                      refine pure_ (i := 13) (N := some 37) (v := ?_) (a' := ?_) #[true, true, true, true, true, true, true, true, true, true, true, true, true, true, false, false, false, false, false, false, false, false, false, false, false, false, false, false, false, false, false, false, false, false, false, false, false, false, false, false, false, false, false, false, false, false, false, false, false, false, false, false, false, false] rfl rfl (any_of HT_.out (by kernel_rfl)) (fun _ _ _ h => h) (Or.inl ⟨by rfl, ?_⟩) ?_ ?_
                      rotate_left
                      · intro w'
                        go_simp
                        with_reducible rfl
                      rotate_left
                      · simp only [Act.put, List.setIfInBounds_toArray, List.set_cons_zero, List.set_cons_succ, i64_w, i32_w]
                        rfl
                      refine pure_ (i := 14) (N := some 38) (v := ?_) (a' := ?_) #[true, true, true, true, true, true, true, true, true, true, true, true, true, true, true, false, false, false, false, false, false, false, false, false, false, false, false, false, false, false, false, false, false, false, false, false, false, false, false, false, false, false, false, false, false, false, false, false, false, false, false, false, false, false] rfl rfl (any_of HT_.out (by kernel_rfl)) (fun _ _ _ h => h) (Or.inl ⟨by rfl, ?_⟩) ?_ ?_
                      rotate_left
                      · intro w'
                        go_simp
                        with_reducible rfl
                      rotate_left
                      · simp only [Act.put, List.setIfInBounds_toArray, List.set_cons_zero, List.set_cons_succ, i64_w, i32_w]
                        rfl
                      refine pure_ (i := 15) (N := some 39) (v := ?_) (a' := ?_) #[true, true, true, true, true, true, true, true, true, true, true, true, true, true, true, true, false, false, false, false, false, false, false, false, false, false, false, false, false, false, false, false, false, false, false, false, false, false, false, false, false, false, false, false, false, false, false, false, false, false, false, false, false, false] rfl rfl (any_of HT_.out (by kernel_rfl)) (fun _ _ _ h => h) (Or.inl ⟨by rfl, ?_⟩) ?_ ?_
                      rotate_left
                      · intro w'
                        go_simp
                        with_reducible rfl
                      rotate_left
                      · simp only [Act.put, List.setIfInBounds_toArray, List.set_cons_zero, List.set_cons_succ, i64_w, i32_w]
                        rfl
                      refine one_ (i := 16) (N := some 40) #[true, true, true, true, true, true, true, true, true, true, true, true, true, true, true, true, true, false, false, false, false, false, false, false, false, false, false, false, false, false, false, false, false, false, false, false, false, false, false, false, false, false, false, false, false, false, false, false, false, false, false, false, false, false] rfl rfl (one_of HT_.out (by kernel_rfl)) (by decide) (fun K hK => ?_)
                      refine goes_ Try.func13 (by kernel_rfl) rfl #[.slice Ao45 y150.length co45, .int .i64 2, .int .u64 2] (by rfl) rfl rfl (by (try simp only [List.map_toArray, List.map_cons, List.map_nil]); first | done | rfl | (simp only [List.length_drop, List.length_take]; rfl)) ?_
                      with_reducible refine (stripe_Set.calls k _ _ y150 2 2 t187 _ ?side1 ?side2 A13.out).mono ?_
                      (case side1 => exact Cb (Kd.N_reads' HO152.out).2.2)
                      (case side2 => exact (Kd.N_reads' HO152.out).2.1)
                      rintro e w55 ⟨v188, rfl, ho0, hb⟩
                      have HS2_ := (hb.cell (World.block_lt_of_cell? _ _ (hHeld.2.2.1))).trans (hHeld.2.2.1)
                      have HS3_ := (hb.cell (World.block_lt_of_cell? _ _ (hHeld.2.2.2))).trans (hHeld.2.2.2)
                      refine ⟨_, rfl, ?_⟩
                      have n0_ := Aside0.mk (Kd.V_elder' (Vb HO148.out) (Kd.R_base ho0) hb)
                      have n1_ := Aside0.mk (Kd.N_elder' (Nb HO152.out) (Kd.R_base ho0) hb)
                      have n2_ := Aside0.mk (Kd.R_below (Rb HO155.out) hb)
                      have n3_ := Aside0.mk (Kd.R_elder' (Rb HO159.out) (Kd.R_base ho0) hb)
                      have n4_ := Aside0.mk (Kd.R_below (Rb HO162.out) hb)
                      have n5_ := Aside0.mk (Kd.R_elder' (Rb HO166.out) (Kd.R_base ho0) hb)
                      have n6_ := Aside0.mk (Kd.V_elder' (Vb HO174.out) (Kd.R_base ho0) hb)
                      have n7_ := Aside0.mk (Kd.R_elder' (Rb HO169.out) (Kd.R_base ho0) hb)
                      have n8_ := Aside0.mk (Kd.R_elder' (Rb HO178.out) (Kd.R_base ho0) hb)
                      have n9_ := Aside0.mk (Kd.R_elder' (Rb HO185.out) (Kd.R_base ho0) hb)
                      have n10_ := Aside0.mk (Kd.R_lower (Kd.R_new' (Kd.R_new' (Kd.R_new' (Kd.R_new' (Kd.R_new' ho0 (Kd.R_lt (Rb HO159.out))) (Kd.R_lt (Rb HO166.out))) (Kd.R_lt (Rb HO169.out))) (Kd.R_lt (Rb HO178.out))) (Kd.R_lt (Rb HO185.out))) (below_size (Hb HB.out)))
                      have n11_ := Aside0.mk (blk_below (Bb BK149.out) hb)
                      have n12_ := Aside0.mk (below_step (Hb HB.out) hb)
                      clear HO148
                      clear HO152
                      clear HO155
                      clear HO159
                      clear HO162
                      clear HO166
                      clear HO174
                      clear HO169
                      clear HO178
                      clear HO185
                      clear BK149
                      clear HB
                      have HO148 := n0_
                      have HO152 := n1_
                      have HO155 := n2_
                      have HO159 := n3_
                      have HO162 := n4_
                      have HO166 := n5_
                      have HO174 := n6_
                      have HO169 := n7_
                      have HO178 := n8_
                      have HO185 := n9_
                      have HO189 := n10_
                      have BK149 := n11_
                      have HB := n12_
                      clear n0_ n1_ n2_ n3_ n4_ n5_ n6_ n7_ n8_ n9_ n10_ n11_ n12_
                      (try clear hb)
                      (try clear hb2)
                      (try clear hk)
                      (try clear hi)
                      (try clear ho0)
                      obtain ⟨Ao56, co56, eo56⟩ := Kd.R_slice HO189.out
                      (first | subst eo56 | (injection eo56 with f1_ f2_ f3_; have f4_ := f1_.symm; have f5_ := f3_.symm; clear f1_ f2_ f3_; subst f4_; subst f5_))
                      refine hK.out _ _ ⟨(blk_cell BK149.out 0).trans rfl, (blk_cell BK149.out 1).trans rfl, HS2_, HS3_⟩ (fun hHeld => ?_)
                      clear hK K
                      refine norm_ (a' := ?_) ?_ ?_
                      rotate_left
                      · show Act.put _ (some 40) _ = _
                        simp only [Act.put, List.setIfInBounds_toArray, List.set_cons_zero, List.set_cons_succ, i64_w, i32_w]
                        rfl
                      refine pure_ (i := 17) (N := some 41) (v := ?_) (a' := ?_) #[true, true, true, true, true, true, true, true, true, true, true, true, true, true, true, true, true, true, false, false, false, false, false, false, false, false, false, false, false, false, false, false, false, false, false, false, false, false, false, false, false, false, false, false, false, false, false, false, false, false, false, false, false, false] rfl rfl (any_of HT_.out (by kernel_rfl)) (fun _ _ _ h => h) (Or.inl ⟨by rfl, ?_⟩) ?_ ?_
                      rotate_left
                      · intro w'
                        go_simp
                        with_reducible rfl
                      rotate_left
                      · simp only [Act.put, List.setIfInBounds_toArray, List.set_cons_zero, List.set_cons_succ, i64_w, i32_w]
                        rfl
                      refine pure_ (i := 18) (N := some 42) (v := ?_) (a' := ?_) #[true, true, true, true, true, true, true, true, true, true, true, true, true, true, true, true, true, true, true, false, false, false, false, false, false, false, false, false, false, false, false, false, false, false, false, false, false, false, false, false, false, false, false, false, false, false, false, false, false, false, false, false, false, false] rfl rfl (any_of HT_.out (by kernel_rfl)) (fun _ _ _ h => h) (Or.inl ⟨by rfl, ?_⟩) ?_ ?_
                      rotate_left
                      · intro w'
                        go_simp
                        with_reducible rfl
                      rotate_left
                      · simp only [Act.put, List.setIfInBounds_toArray, List.set_cons_zero, List.set_cons_succ, i64_w, i32_w]
                        rfl
                      refine pure_ (i := 19) (N := some 43) (v := ?_) (a' := ?_) #[true, true, true, true, true, true, true, true, true, true, true, true, true, true, true, true, true, true, true, true, false, false, false, false, false, false, false, false, false, false, false, false, false, false, false, false, false, false, false, false, false, false, false, false, false, false, false, false, false, false, false, false, false, false] rfl rfl (any_of HT_.out (by kernel_rfl)) (fun _ _ _ h => h) (Or.inl ⟨by rfl, ?_⟩) ?_ ?_
                      rotate_left
                      · intro w'
                        go_simp
                        with_reducible rfl
                      rotate_left
                      · simp only [Act.put, List.setIfInBounds_toArray, List.set_cons_zero, List.set_cons_succ, i64_w, i32_w]
                        rfl
                      refine pure_ (i := 20) (N := some 44) (v := ?_) (a' := ?_) #[true, true, true, true, true, true, true, true, true, true, true, true, true, true, true, true, true, true, true, true, true, false, false, false, false, false, false, false, false, false, false, false, false, false, false, false, false, false, false, false, false, false, false, false, false, false, false, false, false, false, false, false, false, false] rfl rfl (any_of HT_.out (by kernel_rfl)) (fun _ _ _ h => h) (Or.inl ⟨by rfl, ?_⟩) ?_ ?_
                      rotate_left
                      · intro w'
                        go_simp
                        with_reducible rfl
                      rotate_left
                      · simp only [Act.put, List.setIfInBounds_toArray, List.set_cons_zero, List.set_cons_succ, i64_w, i32_w]
                        rfl
                      refine take_ (i := 21) (N := some 45) (v := ?_) (a' := ?_) #[true, true, true, true, true, true, true, true, true, true, true, true, true, true, true, true, true, true, true, true, true, true, false, false, false, false, false, false, false, false, false, false, false, false, false, false, false, false, false, false, false, false, false, false, false, false, false, false, false, false, false, false, false, false] rfl rfl (take_ofW HT_.out HW_.out (by kernel_rfl)) (fun _ _ _ h => h) (Or.inl ⟨by rfl, ?_⟩) hHeld ?_ ?_
                      rotate_left
                      · rintro w' ⟨s0, s1, s2, s3⟩
                        go_simp
                        with_reducible rfl
                      rotate_left
                      · simp only [Act.put, List.setIfInBounds_toArray, List.set_cons_zero, List.set_cons_succ, i64_w, i32_w]
                        rfl
                      refine one_ (i := 22) (N := some 46) #[true, true, true, true, true, true, true, true, true, true, true, true, true, true, true, true, true, true, true, true, true, true, true, false, false, false, false, false, false, false, false, false, false, false, false, false, false, false, false, false, false, false, false, false, false, false, false, false, false, false, false, false, false, false] rfl rfl (one_of HT_.out (by kernel_rfl)) (by decide) (fun K hK => ?_)
                      refine goes_ Try.func34 (by kernel_rfl) rfl #[.int .i64 7] (by rfl) rfl rfl (by (try simp only [List.map_toArray, List.map_cons, List.map_nil]); first | done | rfl | (simp only [List.length_drop, List.length_take]; rfl)) ?_
                      with_reducible refine (scrivenerlaw14_place.calls 7 t190 t191 _ A15.out).mono ?_
                      rintro e w57 ⟨rfl, hb⟩
                      have HS2_ := (hb.cell (World.block_lt_of_cell? _ _ (hHeld.2.2.1))).trans (hHeld.2.2.1)
                      have HS3_ := (hb.cell (World.block_lt_of_cell? _ _ (hHeld.2.2.2))).trans (hHeld.2.2.2)
                      refine ⟨_, rfl, ?_⟩
                      have n0_ := Aside0.mk (Kd.V_below (Vb HO148.out) hb)
                      have n1_ := Aside0.mk (Kd.N_below (Nb HO152.out) hb)
                      have n2_ := Aside0.mk (Kd.R_below (Rb HO155.out) hb)
                      have n3_ := Aside0.mk (Kd.R_below (Rb HO159.out) hb)
                      have n4_ := Aside0.mk (Kd.R_below (Rb HO162.out) hb)
                      have n5_ := Aside0.mk (Kd.R_below (Rb HO166.out) hb)
                      have n6_ := Aside0.mk (Kd.V_below (Vb HO174.out) hb)
                      have n7_ := Aside0.mk (Kd.R_below (Rb HO169.out) hb)
                      have n8_ := Aside0.mk (Kd.R_below (Rb HO178.out) hb)
                      have n9_ := Aside0.mk (Kd.R_below (Rb HO185.out) hb)
                      have n10_ := Aside0.mk (Kd.R_below (Rb HO189.out) hb)
                      have n11_ := Aside0.mk (blk_below (Bb BK149.out) hb)
                      have n12_ := Aside0.mk (below_step (Hb HB.out) hb)
                      clear HO148
                      clear HO152
                      clear HO155
                      clear HO159
                      clear HO162
                      clear HO166
                      clear HO174
                      clear HO169
                      clear HO178
                      clear HO185
                      clear HO189
                      clear BK149
                      clear HB
                      have HO148 := n0_
                      have HO152 := n1_
                      have HO155 := n2_
                      have HO159 := n3_
                      have HO162 := n4_
                      have HO166 := n5_
                      have HO174 := n6_
                      have HO169 := n7_
                      have HO178 := n8_
                      have HO185 := n9_
                      have HO189 := n10_
                      have BK149 := n11_
                      have HB := n12_
                      clear n0_ n1_ n2_ n3_ n4_ n5_ n6_ n7_ n8_ n9_ n10_ n11_ n12_
                      (try clear hb)
                      (try clear hb2)
                      (try clear hk)
                      (try clear hi)
                      refine hK.out _ _ ⟨(blk_cell BK149.out 0).trans rfl, (blk_cell BK149.out 1).trans rfl, HS2_, HS3_⟩ (fun hHeld => ?_)
                      clear hK K
                      refine norm_ (a' := ?_) ?_ ?_
                      rotate_left
                      · show Act.put _ (some 46) _ = _
                        simp only [Act.put, List.setIfInBounds_toArray, List.set_cons_zero, List.set_cons_succ, i64_w, i32_w]
                        rfl
                      refine one_ (i := 23) (N := some 47) #[true, true, true, true, true, true, true, true, true, true, true, true, true, true, true, true, true, true, true, true, true, true, true, true, false, false, false, false, false, false, false, false, false, false, false, false, false, false, false, false, false, false, false, false, false, false, false, false, false, false, false, false, false, false] rfl rfl (one_of HT_.out (by kernel_rfl)) (by decide) (fun K hK => ?_)
                      refine Kd.R_lit_step k32 _ 32 ?hg (N := 47) ?hd (xs := ([(⟨t190, t191⟩ : S32)] : List (S32))) (inner := [.int .i64 t190, .int .u64 t191]) (ok := fun _ => True) (okp := fun _ => True) ?hr ?hp (fun _ hk => hk) trivial (Below.refl _ _) (Nat.le_refl _) (by simp) ?_; (case hd => rfl); (case hg => rfl); (case hr => first | (go_simp; done) | (go_simp; rfl)); (case hp => exact (Reps.c2 (show Kd.M k32 _ _ _ (⟨t190, t191⟩ : S32) [.int .i64 t190, .int .u64 t191] from (k32_mkM _ _ _ (⟨t190, t191⟩ : S32) )) (Reps.none _ _)))
                      intro v193 w58 ho59 hb hg_ hnew_
                      have HS2_ := (hb.cell (World.block_lt_of_cell? _ _ (hHeld.2.2.1))).trans (hHeld.2.2.1)
                      have HS3_ := (hb.cell (World.block_lt_of_cell? _ _ (hHeld.2.2.2))).trans (hHeld.2.2.2)
                      clear hg_ hnew_
                      (first | rw [← Ny192.out] at ho59 | (simp only [Int.reduceToNat] at ho59; rw [← Ny192.out] at ho59))
                      have n0_ := Aside0.mk (Kd.V_elder' (Vb HO148.out) (Kd.R_base ho59) hb)
                      have n1_ := Aside0.mk (Kd.N_elder' (Nb HO152.out) (Kd.R_base ho59) hb)
                      have n2_ := Aside0.mk (Kd.R_below (Rb HO155.out) hb)
                      have n3_ := Aside0.mk (Kd.R_elder' (Rb HO159.out) (Kd.R_base ho59) hb)
                      have n4_ := Aside0.mk (Kd.R_below (Rb HO162.out) hb)
                      have n5_ := Aside0.mk (Kd.R_elder' (Rb HO166.out) (Kd.R_base ho59) hb)
                      have n6_ := Aside0.mk (Kd.V_elder' (Vb HO174.out) (Kd.R_base ho59) hb)
                      have n7_ := Aside0.mk (Kd.R_elder' (Rb HO169.out) (Kd.R_base ho59) hb)
                      have n8_ := Aside0.mk (Kd.R_elder' (Rb HO178.out) (Kd.R_base ho59) hb)
                      have n9_ := Aside0.mk (Kd.R_elder' (Rb HO185.out) (Kd.R_base ho59) hb)
                      have n10_ := Aside0.mk (Kd.R_elder' (Rb HO189.out) (Kd.R_base ho59) hb)
                      have n11_ := Aside0.mk (Kd.R_lower (Kd.R_new' (Kd.R_new' (Kd.R_new' (Kd.R_new' (Kd.R_new' (Kd.R_new' ho59 (Kd.R_lt (Rb HO159.out))) (Kd.R_lt (Rb HO166.out))) (Kd.R_lt (Rb HO169.out))) (Kd.R_lt (Rb HO178.out))) (Kd.R_lt (Rb HO185.out))) (Kd.R_lt (Rb HO189.out))) (below_size (Hb HB.out)))
                      have n12_ := Aside0.mk (blk_below (Bb BK149.out) hb)
                      have n13_ := Aside0.mk (below_step (Hb HB.out) hb)
                      clear HO148
                      clear HO152
                      clear HO155
                      clear HO159
                      clear HO162
                      clear HO166
                      clear HO174
                      clear HO169
                      clear HO178
                      clear HO185
                      clear HO189
                      clear BK149
                      clear HB
                      have HO148 := n0_
                      have HO152 := n1_
                      have HO155 := n2_
                      have HO159 := n3_
                      have HO162 := n4_
                      have HO166 := n5_
                      have HO174 := n6_
                      have HO169 := n7_
                      have HO178 := n8_
                      have HO185 := n9_
                      have HO189 := n10_
                      have HO194 := n11_
                      have BK149 := n12_
                      have HB := n13_
                      clear n0_ n1_ n2_ n3_ n4_ n5_ n6_ n7_ n8_ n9_ n10_ n11_ n12_ n13_
                      clear hb ho59
                      obtain ⟨Ao60, co60, eo60⟩ := Kd.R_slice HO194.out
                      (first | subst eo60 | (injection eo60 with f1_ f2_ f3_; have f4_ := f1_.symm; have f5_ := f3_.symm; clear f1_ f2_ f3_; subst f4_; subst f5_))
                      refine hK.out _ _ ⟨(blk_cell BK149.out 0).trans rfl, (blk_cell BK149.out 1).trans rfl, HS2_, HS3_⟩ (fun hHeld => ?_)
                      clear hK K
                      refine norm_ (a' := ?_) ?_ ?_
                      rotate_left
                      · show Act.put _ (some 47) _ = _
                        simp only [Act.put, List.setIfInBounds_toArray, List.set_cons_zero, List.set_cons_succ, i64_w, i32_w]
                        rfl
                      refine one_ (i := 24) (N := some 48) #[true, true, true, true, true, true, true, true, true, true, true, true, true, true, true, true, true, true, true, true, true, true, true, true, true, false, false, false, false, false, false, false, false, false, false, false, false, false, false, false, false, false, false, false, false, false, false, false, false, false, false, false, false, false] rfl rfl (one_of HT_.out (by kernel_rfl)) (by decide) (fun K hK => ?_)
                      refine goes_ Try.func15 (by kernel_rfl) rfl #[.agg #[.int .u64 t145, .slice Ao28 t146.length co28], .int .i64 2, .int .i64 2, .slice Ao60 y192.length co60] (by rfl) rfl rfl (by (try simp only [List.map_toArray, List.map_cons, List.map_nil]); first | done | rfl | (simp only [List.length_drop, List.length_take]; rfl)) ?_
                      with_reducible refine (stripe_Covered.calls t145 _ _ t146 2 2 _ _ y192 false _ ?side1 ?side2 ?side3 ?side4 A16.out).mono ?_
                      (case side1 => exact Cb (Kd.V_reads' HO148.out).2.2)
                      (case side2 => exact (Kd.V_reads' HO148.out).2.1)
                      (case side3 => exact Cb (Kd.R_reads' HO194.out).2.2)
                      (case side4 => exact (Kd.R_reads' HO194.out).2.1)
                      rintro e w61 ⟨rfl, hb⟩
                      have HS2_ := (hb.cell (World.block_lt_of_cell? _ _ (hHeld.2.2.1))).trans (hHeld.2.2.1)
                      have HS3_ := (hb.cell (World.block_lt_of_cell? _ _ (hHeld.2.2.2))).trans (hHeld.2.2.2)
                      refine ⟨_, rfl, ?_⟩
                      have n0_ := Aside0.mk (Kd.V_below (Vb HO148.out) hb)
                      have n1_ := Aside0.mk (Kd.N_below (Nb HO152.out) hb)
                      have n2_ := Aside0.mk (Kd.R_below (Rb HO155.out) hb)
                      have n3_ := Aside0.mk (Kd.R_below (Rb HO159.out) hb)
                      have n4_ := Aside0.mk (Kd.R_below (Rb HO162.out) hb)
                      have n5_ := Aside0.mk (Kd.R_below (Rb HO166.out) hb)
                      have n6_ := Aside0.mk (Kd.V_below (Vb HO174.out) hb)
                      have n7_ := Aside0.mk (Kd.R_below (Rb HO169.out) hb)
                      have n8_ := Aside0.mk (Kd.R_below (Rb HO178.out) hb)
                      have n9_ := Aside0.mk (Kd.R_below (Rb HO185.out) hb)
                      have n10_ := Aside0.mk (Kd.R_below (Rb HO189.out) hb)
                      have n11_ := Aside0.mk (Kd.R_below (Rb HO194.out) hb)
                      have n12_ := Aside0.mk (blk_below (Bb BK149.out) hb)
                      have n13_ := Aside0.mk (below_step (Hb HB.out) hb)
                      clear HO148
                      clear HO152
                      clear HO155
                      clear HO159
                      clear HO162
                      clear HO166
                      clear HO174
                      clear HO169
                      clear HO178
                      clear HO185
                      clear HO189
                      clear HO194
                      clear BK149
                      clear HB
                      have HO148 := n0_
                      have HO152 := n1_
                      have HO155 := n2_
                      have HO159 := n3_
                      have HO162 := n4_
                      have HO166 := n5_
                      have HO174 := n6_
                      have HO169 := n7_
                      have HO178 := n8_
                      have HO185 := n9_
                      have HO189 := n10_
                      have HO194 := n11_
                      have BK149 := n12_
                      have HB := n13_
                      clear n0_ n1_ n2_ n3_ n4_ n5_ n6_ n7_ n8_ n9_ n10_ n11_ n12_ n13_
                      (try clear hb)
                      (try clear hb2)
                      (try clear hk)
                      (try clear hi)
                      refine hK.out _ _ ⟨(blk_cell BK149.out 0).trans rfl, (blk_cell BK149.out 1).trans rfl, HS2_, HS3_⟩ (fun hHeld => ?_)
                      clear hK K
                      refine norm_ (a' := ?_) ?_ ?_
                      rotate_left
                      · show Act.put _ (some 48) _ = _
                        simp only [Act.put, List.setIfInBounds_toArray, List.set_cons_zero, List.set_cons_succ, i64_w, i32_w]
                        rfl
                      refine pure_ (i := 25) (N := some 49) (v := ?_) (a' := ?_) #[true, true, true, true, true, true, true, true, true, true, true, true, true, true, true, true, true, true, true, true, true, true, true, true, true, true, false, false, false, false, false, false, false, false, false, false, false, false, false, false, false, false, false, false, false, false, false, false, false, false, false, false, false, false] rfl rfl (any_of HT_.out (by kernel_rfl)) (fun _ _ _ h => h) (Or.inl ⟨by rfl, ?_⟩) ?_ ?_
                      rotate_left
                      · intro w'
                        go_simp
                        with_reducible rfl
                      rotate_left
                      · simp only [Act.put, List.setIfInBounds_toArray, List.set_cons_zero, List.set_cons_succ, i64_w, i32_w]
                        rfl
                      refine pure_ (i := 26) (N := some 50) (v := ?_) (a' := ?_) #[true, true, true, true, true, true, true, true, true, true, true, true, true, true, true, true, true, true, true, true, true, true, true, true, true, true, true, false, false, false, false, false, false, false, false, false, false, false, false, false, false, false, false, false, false, false, false, false, false, false, false, false, false, false] rfl rfl (any_of HT_.out (by kernel_rfl)) (fun _ _ _ h => h) (Or.inl ⟨by rfl, ?_⟩) ?_ ?_
                      rotate_left
                      · intro w'
                        go_simp
                        with_reducible rfl
                      rotate_left
                      · simp only [Act.put, List.setIfInBounds_toArray, List.set_cons_zero, List.set_cons_succ, i64_w, i32_w]
                        rfl
                      refine pure_ (i := 27) (N := some 51) (v := ?_) (a' := ?_) #[true, true, true, true, true, true, true, true, true, true, true, true, true, true, true, true, true, true, true, true, true, true, true, true, true, true, true, true, false, false, false, false, false, false, false, false, false, false, false, false, false, false, false, false, false, false, false, false, false, false, false, false, false, false] rfl rfl (any_of HT_.out (by kernel_rfl)) (fun _ _ _ h => h) (Or.inl ⟨by rfl, ?_⟩) ?_ ?_
                      rotate_left
                      · intro w'
                        go_simp
                        with_reducible rfl
                      rotate_left
                      · simp only [Act.put, List.setIfInBounds_toArray, List.set_cons_zero, List.set_cons_succ, i64_w, i32_w]
                        rfl
                      refine pure_ (i := 29) (N := some 53) (v := ?_) (a' := ?_) #[true, true, true, true, true, true, true, true, true, true, true, true, true, true, true, true, true, true, true, true, true, true, true, true, true, true, true, true, false, true, false, false, false, false, false, false, false, false, false, false, false, false, false, false, false, false, false, false, false, false, false, false, false, false] rfl rfl (any_of HT_.out (by kernel_rfl)) (fun _ _ _ h => h) (Or.inl ⟨by rfl, ?_⟩) ?_ ?_
                      rotate_left
                      · intro w'
                        go_simp
                        with_reducible rfl
                      rotate_left
                      · simp only [Act.put, List.setIfInBounds_toArray, List.set_cons_zero, List.set_cons_succ, i64_w, i32_w]
                        rfl
                      refine take_ (i := 28) (N := some 52) (v := ?_) (a' := ?_) #[true, true, true, true, true, true, true, true, true, true, true, true, true, true, true, true, true, true, true, true, true, true, true, true, true, true, true, true, true, true, false, false, false, false, false, false, false, false, false, false, false, false, false, false, false, false, false, false, false, false, false, false, false, false] rfl rfl (take_ofW HT_.out HW_.out (by kernel_rfl)) (fun _ _ _ h => h) (Or.inl ⟨by rfl, ?_⟩) hHeld ?_ ?_
                      rotate_left
                      · rintro w' ⟨s0, s1, s2, s3⟩
                        go_simp
                        with_reducible rfl
                      rotate_left
                      · simp only [Act.put, List.setIfInBounds_toArray, List.set_cons_zero, List.set_cons_succ, i64_w, i32_w]
                        rfl
                      refine take_ (i := 30) (N := some 54) (v := ?_) (a' := ?_) #[true, true, true, true, true, true, true, true, true, true, true, true, true, true, true, true, true, true, true, true, true, true, true, true, true, true, true, true, true, true, true, false, false, false, false, false, false, false, false, false, false, false, false, false, false, false, false, false, false, false, false, false, false, false] rfl rfl (take_ofW HT_.out HW_.out (by kernel_rfl)) (fun _ _ _ h => h) (Or.inl ⟨by rfl, ?_⟩) hHeld ?_ ?_
                      rotate_left
                      · rintro w' ⟨s0, s1, s2, s3⟩
                        go_simp
                        with_reducible rfl
                      rotate_left
                      · simp only [Act.put, List.setIfInBounds_toArray, List.set_cons_zero, List.set_cons_succ, i64_w, i32_w]
                        rfl
                      refine one_ (i := 31) (N := some 55) #[true, true, true, true, true, true, true, true, true, true, true, true, true, true, true, true, true, true, true, true, true, true, true, true, true, true, true, true, true, true, true, true, false, false, false, false, false, false, false, false, false, false, false, false, false, false, false, false, false, false, false, false, false, false] rfl rfl (one_of HT_.out (by kernel_rfl)) (by decide) (fun K hK => ?_)
                      refine goes_ Try.func15 (by kernel_rfl) rfl #[.agg #[.int .u64 t145, .slice Ao28 t146.length co28], .int .i64 2, .int .i64 2, .slice Ao28 t146.length co28] (by rfl) rfl rfl (by (try simp only [List.map_toArray, List.map_cons, List.map_nil]); first | done | rfl | (simp only [List.length_drop, List.length_take]; rfl)) ?_
                      with_reducible refine (stripe_Covered.calls t145 _ _ t146 2 2 _ _ t146 true _ ?side1 ?side2 ?side3 ?side4 A18.out).mono ?_
                      (case side1 => exact Cb (Kd.V_reads' HO148.out).2.2)
                      (case side2 => exact (Kd.V_reads' HO148.out).2.1)
                      (case side3 => exact Cb (Kd.V_reads' HO148.out).2.2)
                      (case side4 => exact (Kd.V_reads' HO148.out).2.1)
                      rintro e w62 ⟨rfl, hb⟩
                      have HS2_ := (hb.cell (World.block_lt_of_cell? _ _ (hHeld.2.2.1))).trans (hHeld.2.2.1)
                      have HS3_ := (hb.cell (World.block_lt_of_cell? _ _ (hHeld.2.2.2))).trans (hHeld.2.2.2)
                      refine ⟨_, rfl, ?_⟩
                      have n0_ := Aside0.mk (Kd.V_below (Vb HO148.out) hb)
                      have n1_ := Aside0.mk (Kd.N_below (Nb HO152.out) hb)
                      have n2_ := Aside0.mk (Kd.R_below (Rb HO155.out) hb)
                      have n3_ := Aside0.mk (Kd.R_below (Rb HO159.out) hb)
                      have n4_ := Aside0.mk (Kd.R_below (Rb HO162.out) hb)
                      have n5_ := Aside0.mk (Kd.R_below (Rb HO166.out) hb)
                      have n6_ := Aside0.mk (Kd.V_below (Vb HO174.out) hb)
                      have n7_ := Aside0.mk (Kd.R_below (Rb HO169.out) hb)
                      have n8_ := Aside0.mk (Kd.R_below (Rb HO178.out) hb)
                      have n9_ := Aside0.mk (Kd.R_below (Rb HO185.out) hb)
                      have n10_ := Aside0.mk (Kd.R_below (Rb HO189.out) hb)
                      have n11_ := Aside0.mk (Kd.R_below (Rb HO194.out) hb)
                      have n12_ := Aside0.mk (blk_below (Bb BK149.out) hb)
                      have n13_ := Aside0.mk (below_step (Hb HB.out) hb)
                      clear HO148
                      clear HO152
                      clear HO155
                      clear HO159
                      clear HO162
                      clear HO166
                      clear HO174
                      clear HO169
                      clear HO178
                      clear HO185
                      clear HO189
                      clear HO194
                      clear BK149
                      clear HB
                      have HO148 := n0_
                      have HO152 := n1_
                      have HO155 := n2_
                      have HO159 := n3_
                      have HO162 := n4_
                      have HO166 := n5_
                      have HO174 := n6_
                      have HO169 := n7_
                      have HO178 := n8_
                      have HO185 := n9_
                      have HO189 := n10_
                      have HO194 := n11_
                      have BK149 := n12_
                      have HB := n13_
                      clear n0_ n1_ n2_ n3_ n4_ n5_ n6_ n7_ n8_ n9_ n10_ n11_ n12_ n13_
                      (try clear hb)
                      (try clear hb2)
                      (try clear hk)
                      (try clear hi)
                      obtain ⟨Ao63, co63, eo63⟩ := Kd.R_slice HO159.out
                      (first | subst eo63 | (injection eo63 with f1_ f2_ f3_; have f4_ := f1_.symm; have f5_ := f3_.symm; clear f1_ f2_ f3_; subst f4_; subst f5_))
                      refine hK.out _ _ ⟨(blk_cell BK149.out 0).trans rfl, (blk_cell BK149.out 1).trans rfl, HS2_, HS3_⟩ (fun hHeld => ?_)
                      clear hK K
                      refine norm_ (a' := ?_) ?_ ?_
                      rotate_left
                      · show Act.put _ (some 55) _ = _
                        simp only [Act.put, List.setIfInBounds_toArray, List.set_cons_zero, List.set_cons_succ, i64_w, i32_w]
                        rfl
                      refine pure_ (i := 32) (N := some 56) (v := ?_) (a' := ?_) #[true, true, true, true, true, true, true, true, true, true, true, true, true, true, true, true, true, true, true, true, true, true, true, true, true, true, true, true, true, true, true, true, true, false, false, false, false, false, false, false, false, false, false, false, false, false, false, false, false, false, false, false, false, false] rfl rfl (any_of HT_.out (by kernel_rfl)) (fun _ _ _ h => h) (Or.inl ⟨by rfl, ?_⟩) ?_ ?_
                      rotate_left
                      · intro w'
                        go_simp
                        with_reducible rfl
                      rotate_left
                      · simp only [Act.put, List.setIfInBounds_toArray, List.set_cons_zero, List.set_cons_succ, i64_w, i32_w]
                        rfl
                      refine pure_ (i := 33) (N := some 57) (v := ?_) (a' := ?_) #[true, true, true, true, true, true, true, true, true, true, true, true, true, true, true, true, true, true, true, true, true, true, true, true, true, true, true, true, true, true, true, true, true, true, false, false, false, false, false, false, false, false, false, false, false, false, false, false, false, false, false, false, false, false] rfl rfl (any_of HT_.out (by kernel_rfl)) (fun _ _ _ h => h) (Or.inl ⟨by rfl, ?_⟩) ?_ ?_
                      rotate_left
                      · intro w'
                        go_simp
                        with_reducible rfl
                      rotate_left
                      · simp only [Act.put, List.setIfInBounds_toArray, List.set_cons_zero, List.set_cons_succ, i64_w, i32_w]
                        rfl
                      refine pure_ (i := 34) (N := some 58) (v := ?_) (a' := ?_) #[true, true, true, true, true, true, true, true, true, true, true, true, true, true, true, true, true, true, true, true, true, true, true, true, true, true, true, true, true, true, true, true, true, true, true, false, false, false, false, false, false, false, false, false, false, false, false, false, false, false, false, false, false, false] rfl rfl (any_of HT_.out (by kernel_rfl)) (fun _ _ _ h => h) (Or.inl ⟨by rfl, ?_⟩) ?_ ?_
                      rotate_left
                      · intro w'
                        go_simp
                        with_reducible rfl
                      rotate_left
                      · simp only [Act.put, List.setIfInBounds_toArray, List.set_cons_zero, List.set_cons_succ, i64_w, i32_w]
                        rfl
                      refine pure_ (i := 35) (N := some 59) (v := ?_) (a' := ?_) #[true, true, true, true, true, true, true, true, true, true, true, true, true, true, true, true, true, true, true, true, true, true, true, true, true, true, true, true, true, true, true, true, true, true, true, true, false, false, false, false, false, false, false, false, false, false, false, false, false, false, false, false, false, false] rfl rfl (any_of HT_.out (by kernel_rfl)) (fun _ _ _ h => h) (Or.inl ⟨by rfl, ?_⟩) ?_ ?_
                      rotate_left
                      · intro w'
                        go_simp
                        with_reducible rfl
                      rotate_left
                      · simp only [Act.put, List.setIfInBounds_toArray, List.set_cons_zero, List.set_cons_succ, i64_w, i32_w]
                        rfl
                      refine pure_ (i := 36) (N := some 60) (v := ?_) (a' := ?_) #[true, true, true, true, true, true, true, true, true, true, true, true, true, true, true, true, true, true, true, true, true, true, true, true, true, true, true, true, true, true, true, true, true, true, true, true, true, false, false, false, false, false, false, false, false, false, false, false, false, false, false, false, false, false] rfl rfl (any_of HT_.out (by kernel_rfl)) (fun _ _ _ h => h) (Or.inl ⟨by rfl, ?_⟩) ?_ ?_
                      rotate_left
                      · intro w'
                        go_simp
                        with_reducible rfl
                      rotate_left
                      · simp only [Act.put, List.setIfInBounds_toArray, List.set_cons_zero, List.set_cons_succ, i64_w, i32_w]
                        rfl
                      refine pure_ (i := 37) (N := some 61) (v := ?_) (a' := ?_) #[true, true, true, true, true, true, true, true, true, true, true, true, true, true, true, true, true, true, true, true, true, true, true, true, true, true, true, true, true, true, true, true, true, true, true, true, true, true, false, false, false, false, false, false, false, false, false, false, false, false, false, false, false, false] rfl rfl (any_of HT_.out (by kernel_rfl)) (fun _ _ _ h => h) (Or.inl ⟨by rfl, ?_⟩) ?_ ?_
                      rotate_left
                      · intro w'
                        go_simp
                        with_reducible rfl
                      rotate_left
                      · simp only [Act.put, List.setIfInBounds_toArray, List.set_cons_zero, List.set_cons_succ, i64_w, i32_w]
                        rfl
                      refine pure_ (i := 38) (N := some 62) (v := ?_) (a' := ?_) #[true, true, true, true, true, true, true, true, true, true, true, true, true, true, true, true, true, true, true, true, true, true, true, true, true, true, true, true, true, true, true, true, true, true, true, true, true, true, true, false, false, false, false, false, false, false, false, false, false, false, false, false, false, false] rfl rfl (any_of HT_.out (by kernel_rfl)) (fun _ _ _ h => h) (Or.inl ⟨by rfl, ?_⟩) ?_ ?_
                      rotate_left
                      · intro w'
                        go_simp
                        with_reducible rfl
                      rotate_left
                      · simp only [Act.put, List.setIfInBounds_toArray, List.set_cons_zero, List.set_cons_succ, i64_w, i32_w]
                        rfl
                      refine pure_ (i := 39) (N := some 63) (v := ?_) (a' := ?_) #[true, true, true, true, true, true, true, true, true, true, true, true, true, true, true, true, true, true, true, true, true, true, true, true, true, true, true, true, true, true, true, true, true, true, true, true, true, true, true, true, false, false, false, false, false, false, false, false, false, false, false, false, false, false] rfl rfl (any_of HT_.out (by kernel_rfl)) (fun _ _ _ h => h) (Or.inl ⟨by rfl, ?_⟩) ?_ ?_
                      rotate_left
                      · intro w'
                        go_simp
                        with_reducible rfl
                      rotate_left
                      · simp only [Act.put, List.setIfInBounds_toArray, List.set_cons_zero, List.set_cons_succ, i64_w, i32_w]
                        rfl
                      refine pure_ (i := 40) (N := some 64) (v := ?_) (a' := ?_) #[true, true, true, true, true, true, true, true, true, true, true, true, true, true, true, true, true, true, true, true, true, true, true, true, true, true, true, true, true, true, true, true, true, true, true, true, true, true, true, true, true, false, false, false, false, false, false, false, false, false, false, false, false, false] rfl rfl (any_of HT_.out (by kernel_rfl)) (fun _ _ _ h => h) (Or.inl ⟨by rfl, ?_⟩) ?_ ?_
                      rotate_left
                      · intro w'
                        go_simp
                        with_reducible rfl
                      rotate_left
                      · simp only [Act.put, List.setIfInBounds_toArray, List.set_cons_zero, List.set_cons_succ, i64_w, i32_w]
                        rfl
                      refine pure_ (i := 41) (N := some 65) (v := ?_) (a' := ?_) #[true, true, true, true, true, true, true, true, true, true, true, true, true, true, true, true, true, true, true, true, true, true, true, true, true, true, true, true, true, true, true, true, true, true, true, true, true, true, true, true, true, true, false, false, false, false, false, false, false, false, false, false, false, false] rfl rfl (any_of HT_.out (by kernel_rfl)) (fun _ _ _ h => h) (Or.inl ⟨by rfl, ?_⟩) ?_ ?_
                      rotate_left
                      · intro w'
                        go_simp
                        with_reducible rfl
                      rotate_left
                      · simp only [Act.put, List.setIfInBounds_toArray, List.set_cons_zero, List.set_cons_succ, i64_w, i32_w]
                        rfl
                      refine pure_ (i := 42) (N := some 66) (v := ?_) (a' := ?_) #[true, true, true, true, true, true, true, true, true, true, true, true, true, true, true, true, true, true, true, true, true, true, true, true, true, true, true, true, true, true, true, true, true, true, true, true, true, true, true, true, true, true, true, false, false, false, false, false, false, false, false, false, false, false] rfl rfl (any_of HT_.out (by kernel_rfl)) (fun _ _ _ h => h) (Or.inl ⟨by rfl, ?_⟩) ?_ ?_
                      rotate_left
                      · intro w'
                        go_simp
                        with_reducible rfl
                      rotate_left
                      · simp only [Act.put, List.setIfInBounds_toArray, List.set_cons_zero, List.set_cons_succ, i64_w, i32_w]
                        rfl
                      refine pure_ (i := 43) (N := some 67) (v := ?_) (a' := ?_) #[true, true, true, true, true, true, true, true, true, true, true, true, true, true, true, true, true, true, true, true, true, true, true, true, true, true, true, true, true, true, true, true, true, true, true, true, true, true, true, true, true, true, true, true, false, false, false, false, false, false, false, false, false, false] rfl rfl (any_of HT_.out (by kernel_rfl)) (fun _ _ _ h => h) (Or.inl ⟨by rfl, ?_⟩) ?_ ?_
                      rotate_left
                      · intro w'
                        go_simp
                        with_reducible rfl
                      rotate_left
                      · simp only [Act.put, List.setIfInBounds_toArray, List.set_cons_zero, List.set_cons_succ, i64_w, i32_w]
                        rfl
                      refine pure_ (i := 44) (N := some 68) (v := ?_) (a' := ?_) #[true, true, true, true, true, true, true, true, true, true, true, true, true, true, true, true, true, true, true, true, true, true, true, true, true, true, true, true, true, true, true, true, true, true, true, true, true, true, true, true, true, true, true, true, true, false, false, false, false, false, false, false, false, false] rfl rfl (any_of HT_.out (by kernel_rfl)) (fun _ _ _ h => h) (Or.inl ⟨by rfl, ?_⟩) ?_ ?_
                      rotate_left
                      · intro w'
                        go_simp
                        with_reducible rfl
                      rotate_left
                      · simp only [Act.put, List.setIfInBounds_toArray, List.set_cons_zero, List.set_cons_succ, i64_w, i32_w]
                        rfl
                      refine take_ (i := 45) (N := some 69) (v := ?_) (a' := ?_) #[true, true, true, true, true, true, true, true, true, true, true, true, true, true, true, true, true, true, true, true, true, true, true, true, true, true, true, true, true, true, true, true, true, true, true, true, true, true, true, true, true, true, true, true, true, true, false, false, false, false, false, false, false, false] rfl rfl (take_ofW HT_.out HW_.out (by kernel_rfl)) (fun _ _ _ h => h) (Or.inl ⟨by rfl, ?_⟩) hHeld ?_ ?_
                      rotate_left
                      · rintro w' ⟨s0, s1, s2, s3⟩
                        go_simp
                        with_reducible rfl
                      rotate_left
                      · simp only [Act.put, List.setIfInBounds_toArray, List.set_cons_zero, List.set_cons_succ, i64_w, i32_w]
                        rfl
                      refine one_ (i := 46) (N := some 70) #[true, true, true, true, true, true, true, true, true, true, true, true, true, true, true, true, true, true, true, true, true, true, true, true, true, true, true, true, true, true, true, true, true, true, true, true, true, true, true, true, true, true, true, true, true, true, true, false, false, false, false, false, false, false] rfl rfl (one_of HT_.out (by kernel_rfl)) (by decide) (fun K hK => ?_)
                      refine goes_ Try.func34 (by kernel_rfl) rfl #[.int .i64 9] (by rfl) rfl rfl (by (try simp only [List.map_toArray, List.map_cons, List.map_nil]); first | done | rfl | (simp only [List.length_drop, List.length_take]; rfl)) ?_
                      with_reducible refine (scrivenerlaw14_place.calls 9 t198 t199 _ A23.out).mono ?_
                      rintro e w64 ⟨rfl, hb⟩
                      have HS2_ := (hb.cell (World.block_lt_of_cell? _ _ (hHeld.2.2.1))).trans (hHeld.2.2.1)
                      have HS3_ := (hb.cell (World.block_lt_of_cell? _ _ (hHeld.2.2.2))).trans (hHeld.2.2.2)
                      refine ⟨_, rfl, ?_⟩
                      have n0_ := Aside0.mk (Kd.V_below (Vb HO148.out) hb)
                      have n1_ := Aside0.mk (Kd.N_below (Nb HO152.out) hb)
                      have n2_ := Aside0.mk (Kd.R_below (Rb HO155.out) hb)
                      have n3_ := Aside0.mk (Kd.R_below (Rb HO159.out) hb)
                      have n4_ := Aside0.mk (Kd.R_below (Rb HO162.out) hb)
                      have n5_ := Aside0.mk (Kd.R_below (Rb HO166.out) hb)
                      have n6_ := Aside0.mk (Kd.V_below (Vb HO174.out) hb)
                      have n7_ := Aside0.mk (Kd.R_below (Rb HO169.out) hb)
                      have n8_ := Aside0.mk (Kd.R_below (Rb HO178.out) hb)
                      have n9_ := Aside0.mk (Kd.R_below (Rb HO185.out) hb)
                      have n10_ := Aside0.mk (Kd.R_below (Rb HO189.out) hb)
                      have n11_ := Aside0.mk (Kd.R_below (Rb HO194.out) hb)
                      have n12_ := Aside0.mk (blk_below (Bb BK149.out) hb)
                      have n13_ := Aside0.mk (below_step (Hb HB.out) hb)
                      clear HO148
                      clear HO152
                      clear HO155
                      clear HO159
                      clear HO162
                      clear HO166
                      clear HO174
                      clear HO169
                      clear HO178
                      clear HO185
                      clear HO189
                      clear HO194
                      clear BK149
                      clear HB
                      have HO148 := n0_
                      have HO152 := n1_
                      have HO155 := n2_
                      have HO159 := n3_
                      have HO162 := n4_
                      have HO166 := n5_
                      have HO174 := n6_
                      have HO169 := n7_
                      have HO178 := n8_
                      have HO185 := n9_
                      have HO189 := n10_
                      have HO194 := n11_
                      have BK149 := n12_
                      have HB := n13_
                      clear n0_ n1_ n2_ n3_ n4_ n5_ n6_ n7_ n8_ n9_ n10_ n11_ n12_ n13_
                      (try clear hb)
                      (try clear hb2)
                      (try clear hk)
                      (try clear hi)
                      refine hK.out _ _ ⟨(blk_cell BK149.out 0).trans rfl, (blk_cell BK149.out 1).trans rfl, HS2_, HS3_⟩ (fun hHeld => ?_)
                      clear hK K
                      refine norm_ (a' := ?_) ?_ ?_
                      rotate_left
                      · show Act.put _ (some 70) _ = _
                        simp only [Act.put, List.setIfInBounds_toArray, List.set_cons_zero, List.set_cons_succ, i64_w, i32_w]
                        rfl
                      refine pure_ (i := 47) (N := some 71) (v := ?_) (a' := ?_) #[true, true, true, true, true, true, true, true, true, true, true, true, true, true, true, true, true, true, true, true, true, true, true, true, true, true, true, true, true, true, true, true, true, true, true, true, true, true, true, true, true, true, true, true, true, true, true, true, false, false, false, false, false, false] rfl rfl (any_of HT_.out (by kernel_rfl)) (fun _ _ _ h => h) (Or.inl ⟨by rfl, ?_⟩) ?_ ?_
                      rotate_left
                      · intro w'
                        go_simp
                        with_reducible rfl
                      rotate_left
                      · simp only [Act.put, List.setIfInBounds_toArray, List.set_cons_zero, List.set_cons_succ, i64_w, i32_w]
                        rfl
                      refine pure_ (i := 48) (N := some 72) (v := ?_) (a' := ?_) #[true, true, true, true, true, true, true, true, true, true, true, true, true, true, true, true, true, true, true, true, true, true, true, true, true, true, true, true, true, true, true, true, true, true, true, true, true, true, true, true, true, true, true, true, true, true, true, true, true, false, false, false, false, false] rfl rfl (any_of HT_.out (by kernel_rfl)) (fun _ _ _ h => h) (Or.inl ⟨by rfl, ?_⟩) ?_ ?_
                      rotate_left
                      · intro w'
                        go_simp
                        with_reducible rfl
                      rotate_left
                      · simp only [Act.put, List.setIfInBounds_toArray, List.set_cons_zero, List.set_cons_succ, i64_w, i32_w]
                        rfl
                      refine pure_ (i := 49) (N := some 73) (v := ?_) (a' := ?_) #[true, true, true, true, true, true, true, true, true, true, true, true, true, true, true, true, true, true, true, true, true, true, true, true, true, true, true, true, true, true, true, true, true, true, true, true, true, true, true, true, true, true, true, true, true, true, true, true, true, true, false, false, false, false] rfl rfl (any_of HT_.out (by kernel_rfl)) (fun _ _ _ h => h) (Or.inl ⟨by rfl, ?_⟩) ?_ ?_
                      rotate_left
                      · intro w'
                        go_simp
                        with_reducible rfl
                      rotate_left
                      · simp only [Act.put, List.setIfInBounds_toArray, List.set_cons_zero, List.set_cons_succ, i64_w, i32_w]
                        rfl
                      refine pure_ (i := 50) (N := some 74) (v := ?_) (a' := ?_) #[true, true, true, true, true, true, true, true, true, true, true, true, true, true, true, true, true, true, true, true, true, true, true, true, true, true, true, true, true, true, true, true, true, true, true, true, true, true, true, true, true, true, true, true, true, true, true, true, true, true, true, false, false, false] rfl rfl (any_of HT_.out (by kernel_rfl)) (fun _ _ _ h => h) (Or.inl ⟨by rfl, ?_⟩) ?_ ?_
                      rotate_left
                      · intro w'
                        go_simp
                        with_reducible rfl
                      rotate_left
                      · simp only [Act.put, List.setIfInBounds_toArray, List.set_cons_zero, List.set_cons_succ, i64_w, i32_w]
                        rfl
                      refine pure_ (i := 51) (N := some 75) (v := ?_) (a' := ?_) #[true, true, true, true, true, true, true, true, true, true, true, true, true, true, true, true, true, true, true, true, true, true, true, true, true, true, true, true, true, true, true, true, true, true, true, true, true, true, true, true, true, true, true, true, true, true, true, true, true, true, true, true, false, false] rfl rfl (any_of HT_.out (by kernel_rfl)) (fun _ _ _ h => h) (Or.inl ⟨by rfl, ?_⟩) ?_ ?_
                      rotate_left
                      · intro w'
                        go_simp
                        with_reducible rfl
                      rotate_left
                      · simp only [Act.put, List.setIfInBounds_toArray, List.set_cons_zero, List.set_cons_succ, i64_w, i32_w]
                        rfl
                      refine pure_ (i := 52) (N := some 76) (v := ?_) (a' := ?_) #[true, true, true, true, true, true, true, true, true, true, true, true, true, true, true, true, true, true, true, true, true, true, true, true, true, true, true, true, true, true, true, true, true, true, true, true, true, true, true, true, true, true, true, true, true, true, true, true, true, true, true, true, true, false] rfl rfl (any_of HT_.out (by kernel_rfl)) (fun _ _ _ h => h) (Or.inl ⟨by rfl, ?_⟩) ?_ ?_
                      rotate_left
                      · intro w'
                        go_simp
                        with_reducible rfl
                      rotate_left
                      · simp only [Act.put, List.setIfInBounds_toArray, List.set_cons_zero, List.set_cons_succ, i64_w, i32_w]
                        rfl
                      refine pure_ (i := 53) (N := some 0) (v := ?_) (a' := ?_) #[true, true, true, true, true, true, true, true, true, true, true, true, true, true, true, true, true, true, true, true, true, true, true, true, true, true, true, true, true, true, true, true, true, true, true, true, true, true, true, true, true, true, true, true, true, true, true, true, true, true, true, true, true, true] rfl rfl (any_of HT_.out (by kernel_rfl)) (fun _ _ _ h => h) (Or.inl ⟨by rfl, ?_⟩) ?_ ?_
                      rotate_left
                      · intro w'
                        go_simp
                        with_reducible rfl
                      rotate_left
                      · simp only [Act.put, List.setIfInBounds_toArray, List.set_cons_zero, List.set_cons_succ, i64_w, i32_w]
                        rfl
                      refine done_ (done_of HT_.out (by kernel_rfl)) ?_
                      try go_wp2
                      go_ret
                      exact ⟨by first | rfl | (simp [errW_none, errW_some] <;> rfl) | (simp [*, errW_none, errW_some] <;> rfl), by repeat (first | (with_reducible first | exact HB.out | apply below_alloc | apply pw_below_drewN | apply below_drew1 | refine below_set ?_ GE149.out) | exact HB.out)⟩
                    · rw [if_neg c24] at H
                      have c24b0 : (((rd_T32 t156 1).f0) == t198 && (((rd_T32 t156 1).f1) == t199)) = false := by simpa using c24
                      (try (have c24b1 : decide (((rd_T32 t156 1).f0) = t198 && (((rd_T32 t156 1).f1) == t199)) = false := by simpa using c24))
                      (try (have c24b2 : (((rd_T32 t156 1).f0) == t198 && (((rd_T32 t156 1).f1) == t199)) = false := by simpa using c24))
                      (try (have c24b3 : ¬ (((rd_T32 t156 1).f0) = t198 && (((rd_T32 t156 1).f1) == t199)) := by simpa using c24))
                      clear c24
                      exact absurd (Option.some.inj H) (by rw [HT_.out]; decide)
                  · rw [if_neg c22] at H
                    exact absurd H (by simp)
                · rw [if_neg c21] at H
                  have c21b0 : ((t156.length : Int) == 2) = false := beq_eq_false_iff_ne.mpr c21
                  have c21b1 : ((t156.length : Int) != 2) = true := bne_iff_ne.mpr c21
                  exact absurd (Option.some.inj H) (by rw [HT_.out]; decide)
              · rw [if_neg c20] at H
                have c20b0 : (t157 == 0) = false := beq_eq_false_iff_ne.mpr c20
                have c20b1 : (t157 != 0) = true := bne_iff_ne.mpr c20
                exact absurd (Option.some.inj H) (by rw [HT_.out]; decide)
            · replace c19 := Bool.eq_false_iff.mpr c19
              subst c19
              rw [if_neg (show ¬ (false = true) by decide)] at H
              exact absurd (Option.some.inj H) (by rw [HT_.out]; decide)
        · rw [if_neg c14] at H
          have c14b0 : ((t187.length : Int) == 0) = false := beq_eq_false_iff_ne.mpr c14
          have c14b1 : ((t187.length : Int) != 0) = true := bne_iff_ne.mpr c14
          have c14b2 : ¬ (t187 = []) := fun h_ => c14 (by rw [h_]; rfl)
          exact absurd (Option.some.inj H) (by rw [HT_.out]; decide)
      · replace c12 := Bool.eq_false_iff.mpr c12
        subst c12
        rw [if_neg (show ¬ (false = true) by decide)] at H
        exact absurd (Option.some.inj H) (by rw [HT_.out]; decide)
    · replace c7 := Bool.eq_false_iff.mpr c7
      subst c7
      rw [if_neg (show ¬ (false = true) by decide)] at H
      exact absurd (Option.some.inj H) (by rw [HT_.out]; decide)
  · rw [if_neg c5] at H
    exact absurd H (by simp)
end Go.Proofs.Ytipjnfljkknmgaa.Q
namespace Go.Proofs.Ytipjnfljkknmgaa.Q
open Go.RowKit Go.Proofs.YtipjnfljkknmgaaW.PrintWords Go.Proofs.YtipjnfljkknmgaaW.PrintLast Go.Proofs.YtipjnfljkknmgaaW.PrintMore
set_option linter.unusedVariables false
set_option linter.unusedSimpArgs false
def scrivenerlaw14_awake.f : Option Bool := some true
theorem awake_comes : awakeP14.f 40 = some true := by decide +kernel
theorem scrivenerlaw14_awake.calls (r : Bool) (w : World) (h : scrivenerlaw14_awake.f = some r) :
    Calls Try.prog 12 #[] w fun e w' => e = .returned (.bool r) ∧ Below w.heap.size w w' := by
  obtain rfl := Option.some.inj h
  exact awakeP14.calls 40 true w awake_comes rfl
end Go.Proofs.Ytipjnfljkknmgaa.Q
namespace Go.Proofs.Ytipjnfljkknmgaa.Q
open Go.RowKit Go.Proofs.YtipjnfljkknmgaaW.PrintWords Go.Proofs.YtipjnfljkknmgaaW.PrintLast Go.Proofs.YtipjnfljkknmgaaW.PrintMore
attribute [local go_sem] max2_int min2_int max_two min_two max_three min_three max_four min_four   -- for this text's walks alone
set_option linter.unusedVariables false
set_option linter.unusedSimpArgs false
def scrivenerlaw07_LongFrags.l0 : Nat → List (S25) → Int → Option (Bool)
  | 0, _, _ => none
  | k + 1, x0, x3 => if x3 < (x0.length : Int) then (if 0 ≤ x3 then (if (((rd_T25 x0 x3).f1).length : Int) > 30 then (some true) else (scrivenerlaw07_LongFrags.l0 k x0 (wrap64 (x3 + 1)))) else (none)) else (some false)
def scrivenerlaw07_LongFrags.f (k : Nat) (l0 : List (S25)) : Option (Bool) := if (l0.length : Int) > 30 then (some true) else (scrivenerlaw07_LongFrags.l0 k l0 0)
set_option maxHeartbeats 8000000 in
set_option maxRecDepth 100000 in
theorem scrivenerlaw07_LongFrags.calls (k : Nat) (A0 : Option Addr) (c0 : Nat) (l0 : List (S25)) (r : Bool) (w : World) (hr0 : Kd.C k25 w A0 l0.length l0) (hc0 : l0.length ≤ c0) (h : scrivenerlaw07_LongFrags.f k l0 = some r) :
    Calls Try.prog 31 #[.slice A0 l0.length c0] w fun e w' => e = .returned (.bool r) ∧ Drawn0 w w' := by
  have HR0 := Aside0.mk hr0
  have HC0 := Aside0.mk hc0
  clear hr0 hc0
  have H : (if (l0.length : Int) > 30 then (some true) else (scrivenerlaw07_LongFrags.l0 k l0 0)) = some r := h
  clear h
  by_cases c2 : (l0.length : Int) > 30
  · rw [if_pos c2] at H
    have c2b0 : decide (30 < (l0.length : Int)) = true := decide_eq_true c2
    have c2b1 : decide (30 < l0.length) = true := decide_eq_true (by omega)
    clear c2
    obtain rfl := Option.some.inj H
    go_enter Try.func31, Try.ntmps31
    go_wp2
    go_ret
    exact ⟨by first | rfl | (simp; done) | (simp [*]; done), by repeat (first | exact Drawn0.refl _ | apply Drawn0.step)⟩
  · rw [if_neg c2] at H
    have c2b0 : decide (30 < (l0.length : Int)) = false := decide_eq_false c2
    have c2b1 : decide (30 < l0.length) = false := decide_eq_false (by omega)
    clear c2
    have H' := Aside0.mk H
    clear H
    go_enter Try.func31, Try.ntmps31
    go_wp2
    go_loopg [3] k (fun kq v3 w' => ∃ (x3_1 : Int), v3 = .int .i64 x3_1 ∧ Aside0 (scrivenerlaw07_LongFrags.l0 kq l0 x3_1 = some r) ∧ Aside0 (kq ≤ k) ∧ Drawn0 w w')
    case atStart => exact ⟨(0), (by first | rfl | (simp; done) | (simp [*]; done)), H', ⟨Nat.le_refl _⟩, by repeat (first | exact Drawn0.refl _ | apply Drawn0.step)⟩
    case round =>
      clear H'
      try clear c2
      try clear c2b0
      try clear c2b1
      try clear p2
      obtain ⟨x3_1, rfl, HA, HK1, ⟨m1, rfl⟩⟩ := hrel
      cases gk with
      | zero => exact absurd HA.out (by simp [scrivenerlaw07_LongFrags.l0])
      | succ k1 =>
        have H := HA.out
        clear HA
        simp only [scrivenerlaw07_LongFrags.l0] at H
        by_cases c3 : x3_1 < (l0.length : Int)
        · rw [if_pos c3] at H
          have c3b0 : decide (x3_1 < (l0.length : Int)) = true := decide_eq_true c3
          clear c3
          by_cases c4 : 0 ≤ x3_1
          · rw [if_pos c4] at H
            have c4b0 : decide (0 ≤ x3_1) = true := decide_eq_true c4
            clear c4
            by_cases c5 : (((rd_T25 l0 x3_1).f1).length : Int) > 30
            · rw [if_pos c5] at H
              have c5b0 : decide (30 < (((rd_T25 l0 x3_1).f1).length : Int)) = true := decide_eq_true c5
              have c5b1 : decide (30 < ((rd_T25 l0 x3_1).f1).length) = true := decide_eq_true (by omega)
              clear c5
              obtain rfl := Option.some.inj H
              have p101 : 0 ≤ (x3_1 : Int) := of_decide_eq_true (by first | (with_reducible assumption) | assumption)
              have q101 : x3_1 < (l0.length : Int) := of_decide_eq_true (by first | (with_reducible assumption) | assumption)
              obtain ⟨ad101, A101_1, c101_1, e101, hx101_0, hx101_1, hl101_1, hi101_1⟩ := at_T25 HR0.out x3_1 p101 q101
              cases e101
              have HR101_1 := Aside0.mk hi101_1
              have HC101_1 := Aside0.mk hl101_1
              clear hi101_1 hl101_1
              replace p101 := eq_true p101
              replace q101 := eq_true q101
              go_wp2
              go_ret
              exact ⟨by first | rfl | (simp; done) | (simp [*]; done), by repeat (first | exact Drawn0.refl _ | apply Drawn0.step)⟩
            · rw [if_neg c5] at H
              have c5b0 : decide (30 < (((rd_T25 l0 x3_1).f1).length : Int)) = false := decide_eq_false c5
              have c5b1 : decide (30 < ((rd_T25 l0 x3_1).f1).length) = false := decide_eq_false (by omega)
              clear c5
              have H' := Aside0.mk H
              clear H
              have p101 : 0 ≤ (x3_1 : Int) := of_decide_eq_true (by first | (with_reducible assumption) | assumption)
              have q101 : x3_1 < (l0.length : Int) := of_decide_eq_true (by first | (with_reducible assumption) | assumption)
              obtain ⟨ad101, A101_1, c101_1, e101, hx101_0, hx101_1, hl101_1, hi101_1⟩ := at_T25 HR0.out x3_1 p101 q101
              cases e101
              have HR101_1 := Aside0.mk hi101_1
              have HC101_1 := Aside0.mk hl101_1
              clear hi101_1 hl101_1
              replace p101 := eq_true p101
              replace q101 := eq_true q101
              go_wp2
              go_roundg k1
              case measure => have := HK1.out; omega
              case rel => exact ⟨(wrap64 (x3_1 + 1)), (by first | rfl | (simp; done) | (simp [*]; done)), H', ⟨by have := HK1.out; omega⟩, by repeat (first | exact Drawn0.refl _ | apply Drawn0.step)⟩
          · rw [if_neg c4] at H
            exact absurd H (by simp)
        · rw [if_neg c3] at H
          have c3b0 : decide (x3_1 < (l0.length : Int)) = false := decide_eq_false c3
          clear c3
          obtain rfl := Option.some.inj H
          go_wp2
          go_ret
          exact ⟨by first | rfl | (simp; done) | (simp [*]; done), by repeat (first | exact Drawn0.refl _ | apply Drawn0.step)⟩
end Go.Proofs.Ytipjnfljkknmgaa.Q
set_option linter.unusedVariables false
set_option linter.unusedSimpArgs false
open Go Go.AM
namespace Go.Proofs.Try
set_option maxRecDepth 100000
theorem awake_spec (h : Hp) (Q : AV → Hp → List Blk → Prop) (hQ : Q (abool true) h []) : SemC Try.prog 12 [] h Q := by
  refine SemC.ofCalls (abool true) hQ fun E ι vs w _ hl _ => ?_
  have hv : vs = #[] := by
    have : vs.size = 0 := hl.symm
    simpa using this
  subst hv
  refine (Go.Proofs.Ytipjnfljkknmgaa.Q.scrivenerlaw14_awake.calls true w rfl).mono fun e w' he => ?_
  obtain ⟨he, hb⟩ := he
  exact ⟨_, he, .F (.val _ rfl), hb⟩
end Go.Proofs.Try
