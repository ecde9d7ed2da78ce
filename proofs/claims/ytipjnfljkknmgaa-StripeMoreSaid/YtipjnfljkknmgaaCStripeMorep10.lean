/- Part 10 of the proof of the row StripeMore: written for this claim by the session and by a program of its own. -/
import Derived.Test.YtipjnfljkknmgaaCStripeMorep1
import Derived.Test.YtipjnfljkknmgaaCStripeMorep9
import Derived.Test.YtipjnfljkknmgaaCStripeMorep6
import Derived.Test.YtipjnfljkknmgaaCStripeMorep8
namespace Go.Proofs.Ytipjnfljkknmgaa.Q
open Go.RowKit Go.Proofs.YtipjnfljkknmgaaW.PrintWords Go.Proofs.YtipjnfljkknmgaaW.PrintLast Go.Proofs.YtipjnfljkknmgaaW.PrintMore
set_option linter.unusedVariables false
set_option linter.unusedSimpArgs false
/-- A place that may be. -/
def mayP (x : S32) : Bool := decide (x.f0 > 0) && decide (x.f0 ≤ 15) && decide (x.f1 > 0) && decide (x.f1 ≤ 4611686018427387903)
def mayGo : List S32 → List S32 → Bool
  | _, [] => true
  | pre, x :: r => mayP x && (!pre.any fun y => y.f0 == x.f0) && mayGo (pre ++ [x]) r
def mayB (w : Int) (b : List S32) : Bool := !decide ((b.length : Int) < w) && !decide ((b.length : Int) > 5) && mayGo [] b
theorem mayplace_ev (x : S32) (k : Nat) : scrivenerref07_MayPlace.f x.f0 x.f1 = some (mayP x) := by
  unfold scrivenerref07_MayPlace.f mayP
  by_cases h0 : x.f0 > 0 <;> by_cases h1 : x.f0 ≤ 15 <;> by_cases h2 : x.f1 > 0 <;> simp [h0, h1, h2]
section
variable (w : Int) (b : List S32) (hb : b.length ≤ 1000)
include hb
theorem may_l2 (i : Nat) (hi : i < b.length) {r : Bool} (hr : ((b.take i).any fun y => y.f0 == (b[i]).f0) = false → Ev (fun k => scrivenerref07_MayFrags.l1 k w [(⟨1, b⟩ : S25)] 0 b ((i + 1 : Nat) : Int)) r) (hr' : ((b.take i).any fun y => y.f0 == (b[i]).f0) = true → r = false) (d : Nat) : ∀ j : Nat, j + d = i → (((b.take i).take j).any fun y => y.f0 == (b[i]).f0) = false →
    Ev (fun k => scrivenerref07_MayFrags.l2 k w [(⟨1, b⟩ : S25)] 0 b (i : Int) (j : Int)) r := by
  induction d with
  | zero =>
    intro j hj hpre
    obtain rfl : j = i := by omega
    rw [List.take_take, Nat.min_self] at hpre
    refine Ev.step (fun k => ?_) (hr hpre)
    simp only [scrivenerref07_MayFrags.l2]
    rw [if_neg (by omega), w1 j (by omega)]
  | succ d ih =>
    intro j hj hpre
    have hlt : j < b.length := by omega
    have hjt : j < (b.take i).length := by rw [List.length_take]; omega
    have hg : (b.take i)[j] = b[j] := by simp
    by_cases e : (b[j]).f0 = (b[i]).f0
    · rw [hr' (by
        rw [List.any_eq_true]
        exact ⟨b[j], by rw [← hg]; exact List.getElem_mem hjt, by simpa using e⟩)]
      refine Ev.step (fun k => ?_) (Ev.now _)
      simp only [scrivenerref07_MayFrags.l2]
      rw [if_pos (by omega), if_pos (by omega), if_pos (by omega), if_pos (by omega), if_pos (by omega), rdT_get b j hlt, rdT_get b i hi, if_pos e]
    · refine Ev.step (f := fun k => scrivenerref07_MayFrags.l2 k w [(⟨1, b⟩ : S25)] 0 b (i : Int) ((j + 1 : Nat) : Int)) (fun k => ?_) (ih (j + 1) (by omega) ?_)
      · simp only [scrivenerref07_MayFrags.l2]
        rw [if_pos (by omega), if_pos (by omega), if_pos (by omega), if_pos (by omega), if_pos (by omega), rdT_get b j hlt, rdT_get b i hi, if_neg e, w1 j (by omega)]
      · rw [List.take_succ_eq_append_getElem hjt, List.any_append, hpre, hg]
        simpa using e
theorem may_l1 (d : Nat) : ∀ i : Nat, i + d = b.length → Ev (fun k => scrivenerref07_MayFrags.l1 k w [(⟨1, b⟩ : S25)] 0 b (i : Int)) (mayGo (b.take i) (b.drop i)) := by
  induction d with
  | zero =>
    intro i hi
    rw [List.drop_eq_nil_of_le (by omega), mayGo]
    refine Ev.step (f := fun k => scrivenerref07_MayFrags.l0 k w [(⟨1, b⟩ : S25)] 1) (fun k => ?_) (Ev.step (fun k => ?_) (Ev.now _))
    · simp only [scrivenerref07_MayFrags.l1]
      rw [if_neg (by omega), show wrap64 (0 + 1) = 1 from by simp [wrap64]]
    · simp only [scrivenerref07_MayFrags.l0]
      rw [if_neg (by simp)]
  | succ d ih =>
    intro i hi
    have hlt : i < b.length := by omega
    rw [List.drop_eq_getElem_cons hlt, mayGo]
    cases hp : mayP b[i] with
    | false =>
      rw [Bool.false_and, Bool.false_and]
      refine Ev.step (fun k => ?_) (Ev.now _)
      simp only [scrivenerref07_MayFrags.l1]
      rw [if_pos (by omega), if_pos (by omega), rdT_get b i hlt, mayplace_ev _ 0, Option.bind_some, hp, if_neg (by simp)]
    | true =>
      rw [Bool.true_and]
      refine Ev.step (f := fun k => scrivenerref07_MayFrags.l2 k w [(⟨1, b⟩ : S25)] 0 b (i : Int) ((0 : Nat) : Int)) (fun k => ?_) (may_l2 w b hb i hlt (fun hne => ?_) (fun he => ?_) i 0 (by omega) (by simp))
      · simp only [scrivenerref07_MayFrags.l1]
        rw [if_pos (by omega), if_pos (by omega), rdT_get b i hlt, mayplace_ev _ 0, Option.bind_some, hp, if_pos rfl]
        rfl
      · rw [hne]
        have := ih (i + 1) (by omega)
        rw [List.take_succ_eq_append_getElem hlt] at this
        simpa using this
      · rw [he]; rfl
theorem may_ev : Ev (fun k => scrivenerref07_MayFrags.f k w [(⟨1, b⟩ : S25)]) (mayB w b) := by
  unfold scrivenerref07_MayFrags.f mayB
  have h0 : rd_T25 [(⟨1, b⟩ : S25)] 0 = ⟨1, b⟩ := rfl
  simp only [h0]
  refine ev_neg (by simp) (ev_neg (by simp) (ev_pos (by simp) ?_))
  refine Ev.step (f := fun k => scrivenerref07_MayFrags.l0 k w [(⟨1, b⟩ : S25)] 0) (fun k => ?_) ?_
  · simp [scrivenerref07_MayFrags.j0]
  by_cases h1 : (b.length : Int) < w
  · rw [decide_eq_true h1]
    refine Ev.step (f := fun k => scrivenerref07_MayFrags.j2 k w [(⟨1, b⟩ : S25)] 0 b true) (fun k => ?_) (Ev.step (fun k => ?_) (Ev.now _))
    · simp only [scrivenerref07_MayFrags.l0, h0]
      rw [if_pos (by simp), if_pos (by omega), if_neg (by omega), if_neg (by omega), if_pos h1]
    · simp [scrivenerref07_MayFrags.j2]
  · rw [decide_eq_false h1]
    by_cases h2 : (b.length : Int) > 5
    · rw [decide_eq_true h2]
      refine Ev.step (f := fun k => scrivenerref07_MayFrags.j2 k w [(⟨1, b⟩ : S25)] 0 b true) (fun k => ?_) (Ev.step (fun k => ?_) (Ev.now _))
      · simp only [scrivenerref07_MayFrags.l0, h0]
        rw [if_pos (by simp), if_pos (by omega), if_neg (by omega), if_neg (by omega), if_neg h1, decide_eq_true h2]
      · simp [scrivenerref07_MayFrags.j2]
    · rw [decide_eq_false h2]
      refine Ev.step (f := fun k => scrivenerref07_MayFrags.j2 k w [(⟨1, b⟩ : S25)] 0 b false) (fun k => ?_) (Ev.step (f := fun k => scrivenerref07_MayFrags.l1 k w [(⟨1, b⟩ : S25)] 0 b ((0 : Nat) : Int)) (fun k => ?_) ?_)
      · simp only [scrivenerref07_MayFrags.l0, h0]
        rw [if_pos (by simp), if_pos (by omega), if_neg (by omega), if_neg (by omega), if_neg h1, decide_eq_false h2]
      · simp [scrivenerref07_MayFrags.j2]
      · simpa using may_l1 w b hb b.length 0 (by omega)
end
theorem mayB_len {w : Int} {b : List S32} (h : mayB w b = true) : w ≤ b.length ∧ b.length ≤ 5 := by
  simp only [mayB, Bool.and_eq_true, Bool.not_eq_true', decide_eq_false_iff_not] at h
  omega
end Go.Proofs.Ytipjnfljkknmgaa.Q
namespace Go.Proofs.Ytipjnfljkknmgaa.Q
open Go.RowKit Go.Proofs.YtipjnfljkknmgaaW.PrintWords Go.Proofs.YtipjnfljkknmgaaW.PrintLast Go.Proofs.YtipjnfljkknmgaaW.PrintMore
set_option linter.unusedVariables false
set_option linter.unusedSimpArgs false
theorem cntGo_mono {a b : List S32} (h : ∀ x ∈ a, x ∈ b) : ∀ (r pre : List S32), cntGo a pre r ≤ cntGo b pre r
  | [], _ => by simp [cntGo]
  | x :: r, pre => by
    have := cntGo_mono h r (pre ++ [x])
    rw [cntGo, cntGo]
    by_cases h1 : x ∈ a ∧ x ∉ pre
    · rw [if_pos h1, if_pos ⟨h x h1.1, h1.2⟩]; omega
    · rw [if_neg h1]; omega
theorem cnt_more (set frm : List S32) (x : S32) : cnt set frm ≤ cnt set (frm ++ [x]) := cntGo_mono (fun _ h => List.mem_append_left _ h) set []
theorem missB_more (set frm : List S32) (w a : Int) (x : S32) (h : missB set w a frm = true) : missB set w a (frm ++ [x]) = true := by
  unfold missB at *
  split at h
  · rename_i h1
    rw [if_pos h1]
  · rename_i h1
    rw [if_neg h1]
    have := of_decide_eq_true h
    have := cnt_more set frm x
    exact decide_eq_true (by omega)
theorem covB_more (b frm : List S32) (w a : Int) (x : S32) (h : covB b w a frm = true) : covB b w a (frm ++ [x]) = true := by
  unfold covB at *
  split at h
  · cases h
  · rename_i h1
    rw [if_neg h1]
    rw [List.all_eq_true] at *
    exact fun k hk => missB_more _ _ _ _ _ (h k hk)
/-- Of unlike places each counts. -/
theorem cntGo_all (frm : List S32) : ∀ (r pre : List S32), (∀ x ∈ r, x ∈ frm) → r.Nodup → (∀ x ∈ r, x ∉ pre) → cntGo frm pre r = r.length
  | [], _, _, _, _ => by simp [cntGo]
  | x :: r, pre, h1, h2, h3 => by
    rw [List.nodup_cons] at h2
    rw [cntGo, if_pos ⟨h1 x List.mem_cons_self, h3 x List.mem_cons_self⟩, cntGo_all frm r (pre ++ [x]) (fun y hy => h1 y (List.mem_cons_of_mem _ hy)) h2.2 (fun y hy => by
      rw [List.mem_append, List.mem_singleton, not_or]
      exact ⟨h3 y (List.mem_cons_of_mem _ hy), fun e => h2.1 (e ▸ hy)⟩), List.length_cons]
    omega
theorem mayGo_nodup : ∀ (r pre : List S32), mayGo pre r = true → r.Nodup ∧ ∀ x ∈ r, x ∉ pre
  | [], _, _ => ⟨List.nodup_nil, by simp⟩
  | x :: r, pre, h => by
    rw [mayGo, Bool.and_eq_true, Bool.and_eq_true] at h
    obtain ⟨⟨_, h1⟩, h2⟩ := h
    obtain ⟨h3, h4⟩ := mayGo_nodup r (pre ++ [x]) h2
    have hx : x ∉ pre := by
      intro hin
      have : (pre.any fun y => y.f0 == x.f0) = true := List.any_eq_true.2 ⟨x, hin, by simp⟩
      rw [this] at h1
      cases h1
    refine ⟨List.nodup_cons.2 ⟨fun hin => ?_, h3⟩, fun y hy => ?_⟩
    · exact h4 x hin (List.mem_append_right _ List.mem_cons_self)
    · rcases List.mem_cons.1 hy with rfl | hy
      · exact hx
      · exact fun hin => h4 y hy (List.mem_append_left _ hin)
theorem fromL_mem (b : List S32) (k w : Nat) (hb : 0 < b.length) : ∀ x ∈ fromL b k w, x ∈ b := by
  intro x hx
  obtain ⟨i, _, rfl⟩ := List.mem_map.1 hx
  have : (k + i) % b.length < b.length := Nat.mod_lt _ hb
  rw [List.getD_eq_getElem?_getD, List.getElem?_eq_getElem this]
  exact List.getElem_mem this
theorem fromL_nodup (b : List S32) (k w : Nat) (hb : b.Nodup) (hw : w ≤ b.length) (hk : k < b.length) : (fromL b k w).Nodup := by
  unfold fromL
  rw [List.nodup_iff_pairwise_ne, List.pairwise_map]
  refine List.Pairwise.imp_of_mem ?_ (List.nodup_iff_pairwise_ne.1 (List.nodup_range (n := w)))
  intro i j hi hj hne e
  have hi := List.mem_range.1 hi
  have hj := List.mem_range.1 hj
  have h1 : (k + i) % b.length < b.length := Nat.mod_lt _ (by omega)
  have h2 : (k + j) % b.length < b.length := Nat.mod_lt _ (by omega)
  rw [List.getD_eq_getElem?_getD, List.getElem?_eq_getElem h1, List.getD_eq_getElem?_getD, List.getElem?_eq_getElem h2] at e
  have e' : (k + i) % b.length = (k + j) % b.length := by
    have e : b[(k + i) % b.length] = b[(k + j) % b.length] := e
    have hp := List.pairwise_iff_getElem.1 (List.nodup_iff_pairwise_ne.1 hb)
    rcases Nat.lt_trichotomy ((k + i) % b.length) ((k + j) % b.length) with h | h | h
    · exact absurd e (hp _ _ h1 h2 h)
    · exact h
    · exact absurd e.symm (hp _ _ h2 h1 h)
  apply hne
  by_cases c1 : k + i < b.length <;> by_cases c2 : k + j < b.length
  · rw [Nat.mod_eq_of_lt c1, Nat.mod_eq_of_lt c2] at e'; omega
  · rw [Nat.mod_eq_of_lt c1, Nat.mod_eq_sub_mod (by omega), Nat.mod_eq_of_lt (by omega)] at e'; omega
  · rw [Nat.mod_eq_of_lt c2, Nat.mod_eq_sub_mod (a := k + i) (by omega), Nat.mod_eq_of_lt (by omega)] at e'; omega
  · rw [Nat.mod_eq_sub_mod (a := k + i) (by omega), Nat.mod_eq_sub_mod (a := k + j) (by omega), Nat.mod_eq_of_lt (by omega), Nat.mod_eq_of_lt (by omega)] at e'; omega
theorem covB_self (b : List S32) (w a : Int) (hm : mayB w b = true) (hw : 1 ≤ w) (ha : 1 ≤ a ∧ a ≤ w) : covB b w a b = true := by
  obtain ⟨m1, m2⟩ := mayB_len hm
  have hn : b.Nodup := by
    simp only [mayB, Bool.and_eq_true] at hm
    exact (mayGo_nodup b [] hm.2).1
  obtain ⟨wn, rfl⟩ : ∃ m : Nat, w = m := ⟨w.toNat, by omega⟩
  unfold covB
  rw [if_neg (by omega), List.all_eq_true]
  intro k hk
  have hk := List.mem_range.1 hk
  unfold missB
  rw [if_neg (by omega), Int.toNat_natCast]
  have hc : cnt (fromL b k wn) b = wn := by
    have := cntGo_all b (fromL b k wn) [] (fromL_mem b k wn (by omega)) (fromL_nodup b k wn hn (by omega) hk) (by simp)
    rw [fromL_length] at this
    exact this
  rw [hc]
  exact decide_eq_true (by unfold wrap64; omega)
theorem more_ev (f0 : Int) (b set : List S32) (w a : Int) (frm : List S32) (m0 m1 : Int) (hb : b.length ≤ 9223372036854775807) : Ev (fun k => scrivenerlaw14_StripeMore.f k f0 b set w a frm m0 m1) true := by
  unfold scrivenerlaw14_StripeMore.f
  have haw : Ev (fun k => scrivenerlaw14_StripeMore.j0 k set w a frm true f0 b m0 m1) true := by
    refine Ev.step (fun k => ?_) (Ev.now _)
    simp [scrivenerlaw14_StripeMore.j0, scrivenerlaw14_awake.f]
  refine Ev.bind (long_ev ⟨f0, b⟩ w [set, frm] hb (by simp)) ?_
  refine ev_ite (fun _ => haw) (fun hlong => ?_)
  refine ev_ite (fun _ => haw) (fun h1 => ?_)
  refine ev_ite (fun _ => haw) (fun h2 => ?_)
  by_cases h3 : w < -1000
  · rw [decide_eq_true h3]; exact haw
  · rw [decide_eq_false h3]
    simp only [longB, List.any_cons, List.any_nil, Bool.or_false, Bool.or_eq_true, decide_eq_true_eq, not_or] at hlong
    obtain ⟨⟨l1, l2⟩, l3, l4⟩ := hlong
    have hs : set.length ≤ 4611686018427387903 := by omega
    have hf : frm.length ≤ 4611686018427387903 := by omega
    have hf' : (frm ++ [(⟨m0, m1⟩ : S32)]).length ≤ 4611686018427387903 := by rw [List.length_append, List.length_singleton]; omega
    have hj : Ev (fun k => scrivenerlaw14_StripeMore.j1 k w a false f0 b) true := by
      refine Ev.step (f := fun k => (scrivenerref07_MayFrags.f k w [(⟨1, b⟩ : S25)]).bind fun t281 => if t281 = true then (if w ≥ 1 then (if a ≥ 1 then (if a ≤ w then (stripe_Covered.f f0 b w a b).bind fun t282 => if t282 = true then some true else some false else some true) else some true) else some true) else some true) (fun k => ?_) ?_
      · simp only [scrivenerlaw14_StripeMore.j1, Bool.false_eq_true, if_false, scrivenerlaw14_awake.f, Option.bind_some]
      · refine Ev.bind (may_ev w b (by omega)) ?_
        refine ev_ite (fun hm => ?_) (fun _ => Ev.now _)
        refine ev_ite (fun c1 => ?_) (fun _ => Ev.now _)
        refine ev_ite (fun c2 => ?_) (fun _ => Ev.now _)
        refine ev_ite (fun c3 => ?_) (fun _ => Ev.now _)
        rw [pcov f0 b w a b (by omega), covB_self b w a hm c1 ⟨c2, c3⟩]
        exact Ev.now _
    have hcov : Ev (fun k => (stripe_Covered.f f0 b w a frm).bind fun t268 => if t268 = true then (stripe_Covered.f f0 b w a (frm ++ [(⟨m0, m1⟩ : S32)])).bind fun t269 => scrivenerlaw14_StripeMore.j1 k w a (!t269) f0 b else scrivenerlaw14_StripeMore.j1 k w a false f0 b) true := by
      simp only [pcov f0 b w a frm (by omega), pcov f0 b w a (frm ++ [(⟨m0, m1⟩ : S32)]) (by omega), Option.bind_some]
      cases hc : covB b w a frm with
      | false => simpa using hj
      | true => simpa [covB_more b frm w a ⟨m0, m1⟩ hc] using hj
    have hmiss : Ev (fun k => (stripe_Missing.f k set w a frm).bind fun t266 => if t266 = true then (stripe_Missing.f k set w a (frm ++ [(⟨m0, m1⟩ : S32)])).bind fun t267 => if t267 = true then (stripe_Covered.f f0 b w a frm).bind fun t268 => if t268 = true then (stripe_Covered.f f0 b w a (frm ++ [(⟨m0, m1⟩ : S32)])).bind fun t269 => scrivenerlaw14_StripeMore.j1 k w a (!t269) f0 b else scrivenerlaw14_StripeMore.j1 k w a false f0 b else scrivenerlaw14_StripeMore.j1 k w a true f0 b else (stripe_Covered.f f0 b w a frm).bind fun t268 => if t268 = true then (stripe_Covered.f f0 b w a (frm ++ [(⟨m0, m1⟩ : S32)])).bind fun t269 => scrivenerlaw14_StripeMore.j1 k w a (!t269) f0 b else scrivenerlaw14_StripeMore.j1 k w a false f0 b) true := by
      refine Ev.bind (pmissing_ev set frm hs hf w a) ?_
      refine ev_ite (fun hm => ?_) (fun _ => hcov)
      refine Ev.bind (pmissing_ev set _ hs hf' w a) ?_
      rw [missB_more set frm w a ⟨m0, m1⟩ hm]
      simpa using hcov
    refine Ev.step (f := fun k => (stripe_Acked.f k set a frm).bind fun t264 => if t264 = true then (stripe_Acked.f k set a (frm ++ [(⟨m0, m1⟩ : S32)])).bind fun t265 => if t265 = true then (stripe_Missing.f k set w a frm).bind fun t266 => if t266 = true then (stripe_Missing.f k set w a (frm ++ [(⟨m0, m1⟩ : S32)])).bind fun t267 => if t267 = true then (stripe_Covered.f f0 b w a frm).bind fun t268 => if t268 = true then (stripe_Covered.f f0 b w a (frm ++ [(⟨m0, m1⟩ : S32)])).bind fun t269 => scrivenerlaw14_StripeMore.j1 k w a (!t269) f0 b else scrivenerlaw14_StripeMore.j1 k w a false f0 b else scrivenerlaw14_StripeMore.j1 k w a true f0 b else (stripe_Covered.f f0 b w a frm).bind fun t268 => if t268 = true then (stripe_Covered.f f0 b w a (frm ++ [(⟨m0, m1⟩ : S32)])).bind fun t269 => scrivenerlaw14_StripeMore.j1 k w a (!t269) f0 b else scrivenerlaw14_StripeMore.j1 k w a false f0 b else scrivenerlaw14_StripeMore.j1 k w a true f0 b else (stripe_Missing.f k set w a frm).bind fun t266 => if t266 = true then (stripe_Missing.f k set w a (frm ++ [(⟨m0, m1⟩ : S32)])).bind fun t267 => if t267 = true then (stripe_Covered.f f0 b w a frm).bind fun t268 => if t268 = true then (stripe_Covered.f f0 b w a (frm ++ [(⟨m0, m1⟩ : S32)])).bind fun t269 => scrivenerlaw14_StripeMore.j1 k w a (!t269) f0 b else scrivenerlaw14_StripeMore.j1 k w a false f0 b else scrivenerlaw14_StripeMore.j1 k w a true f0 b else (stripe_Covered.f f0 b w a frm).bind fun t268 => if t268 = true then (stripe_Covered.f f0 b w a (frm ++ [(⟨m0, m1⟩ : S32)])).bind fun t269 => scrivenerlaw14_StripeMore.j1 k w a (!t269) f0 b else scrivenerlaw14_StripeMore.j1 k w a false f0 b) (fun k => ?_) ?_
    · simp only [scrivenerlaw14_StripeMore.j0, Bool.false_eq_true, if_false, Option.bind_some, List.nil_append, List.length_nil, List.length_cons]
      rw [if_pos (by omega), if_pos (by omega)]
    · refine Ev.bind (packed_ev set frm hs hf a) ?_
      refine ev_ite (fun hk => ?_) (fun _ => hmiss)
      refine Ev.bind (packed_ev set _ hs hf' a) ?_
      have : decide (a ≥ 1 ∧ (cnt set (frm ++ [(⟨m0, m1⟩ : S32)]) : Int) ≥ a) = true := by
        have h := of_decide_eq_true hk
        have := cnt_more set frm ⟨m0, m1⟩
        exact decide_eq_true ⟨h.1, by omega⟩
      rw [this]
      simpa using hmiss
end Go.Proofs.Ytipjnfljkknmgaa.Q
