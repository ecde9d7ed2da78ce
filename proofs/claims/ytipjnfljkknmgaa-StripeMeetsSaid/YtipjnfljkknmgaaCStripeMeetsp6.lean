/- Part 6 of the proof of the row StripeMeets: written for this claim by the session and by a program of its own. -/
import Derived.Test.YtipjnfljkknmgaaCStripeMeetsp0
import Derived.Deep.Slices
import Derived.ChangeSame
import Derived.SizedLaws
import Derived.ProofKit
import Derived.Test.YtipjnfljkknmgaaCStripeMeetsp1
import Derived.Test.YtipjnfljkknmgaaCStripeMeetsp4
namespace Go.Proofs.Ytipjnfljkknmgaa.Q
open Go.RowKit Go.Proofs.YtipjnfljkknmgaaW.PrintWords Go.Proofs.YtipjnfljkknmgaaW.PrintLast Go.Proofs.YtipjnfljkknmgaaW.PrintMore
set_option linter.unusedVariables false
set_option linter.unusedSimpArgs false
open Go.ChangeShapes Go.WideShapes Go.Deep
structure Opens (P : Program) {α : Type} (d : Kd α) (t : TypeId) (Q : α → Prop) : Prop where
  sz : P.cellsOf t = d.sz
  go : ∀ {H : Type} {enc : TypeId × Value → H} {w : World} {base : Nat} {spare : Nat → Bool} {held : Bool} {fuel : Nat} {cs : List Value} {x : DataW H × List MemPlace}, DataW.trod enc P w base spare held fuel t cs = some x → (∀ m ∈ x.1.weights P t, m ≤ reachBytes) → ∃ a, d.K w a cs ∧ Q a
/-- The same for a struct's fields from one on, the cells before it left out. -/
structure OpensF (P : Program) {α : Type} (d : Kd α) (fs : List Field) (o : Nat) (Q : α → Prop) : Prop where
  go : ∀ {H : Type} {enc : TypeId × Value → H} {w : World} {base : Nat} {spare : Nat → Bool} {held : Bool} {n : Nat} {cs : List Value} {xs : List (DataW H × List MemPlace)}, cs.length = o + d.sz → xs.length = fs.length →
    (∀ (i : Nat) (f : Field), fs[i]? = some f → DataW.trod enc P w base spare held n f.type ((cs.drop f.offset).take (P.cellsOf f.type)) = xs[i]?) → (∀ m ∈ DataW.weightsEach P (fs.map (·.type)) (xs.map (·.1)), m ≤ reachBytes) → ∃ a, d.K w a (cs.drop o) ∧ Q a
section
variable {P : Program} {t e : TypeId} {α β : Type} {d : Kd α} {d' : Kd β} {Q : α → Prop} {Q' : β → Prop} {o : Nat} {f : Field} {fs : List Field}
theorem opens_int {k : IntKind} (ht : P.underlying t = some (.int k)) (hs : P.cellsOf t = 1) : Opens P (Kd.int k) t (fun n => (Lit.int k n).wf = true) := ⟨hs, fun h _ => by
  obtain ⟨n, rfl, _, hw⟩ := DataW.trod_int ht h
  exact ⟨n, rfl, hw⟩⟩
theorem opens_iso {g : β → α} (h : Opens P d t Q) (b : α → β) (hb : ∀ a, g (b a) = a) (hq : ∀ a, Q a → Q' (b a)) : Opens P (Kd.iso d g) t Q' := ⟨h.sz, fun ht hw => by
  obtain ⟨a, hk, ha⟩ := h.go ht hw
  exact ⟨b a, by show d.K _ (g (b a)) _; rw [hb]; exact hk, hq a ha⟩⟩
theorem opensF_one (hf : f.offset = o) (h : Opens P d f.type Q) : OpensF P d [f] o Q := ⟨by
  intro H enc w base spare held n cs xs hl hx ht hw
  obtain ⟨x, rfl⟩ : ∃ x, xs = [x] := List.length_eq_one_iff.1 hx
  have h1 := ht 0 f rfl
  rw [h.sz, hf, List.take_of_length_le (by rw [List.length_drop]; omega)] at h1
  exact h.go h1 (fun m hm => hw m (by simpa [DataW.weightsEach] using hm))⟩
theorem opensF_cons (hf : f.offset = o) (h : Opens P d f.type Q) (hr : OpensF P d' fs (o + d.sz) Q') : OpensF P (Kd.pair d d') (f :: fs) o (fun x => Q x.1 ∧ Q' x.2) := ⟨by
  intro H enc w base spare held n cs xs hl hx ht hw
  have hl' : cs.length = o + (d.sz + d'.sz) := hl
  cases xs with
  | nil => cases hx
  | cons x xs =>
    have h1 := ht 0 f rfl
    rw [h.sz, hf] at h1
    simp only [List.map_cons, DataW.weightsEach, List.mem_append] at hw
    obtain ⟨a, ka, qa⟩ := h.go h1 (fun m hm => hw m (.inl hm))
    obtain ⟨b, kb, qb⟩ := hr.go (xs := xs) (by omega) (by simpa using hx) (fun i f' hi => ht (i + 1) f' (by simpa using hi)) (fun m hm => hw m (.inr hm))
    refine ⟨(a, b), ⟨_, _, ?_, ka, kb⟩, qa, qb⟩
    rw [← List.drop_drop, List.take_append_drop]⟩
theorem opens_struct {fa : Array Field} (ht : P.underlying t = some (.struct fa)) (hs : P.cellsOf t = d.sz) (h : OpensF P d fa.toList 0 Q) : Opens P d t Q := ⟨hs, fun hx hw => by
  obtain ⟨xs, n, _, rfl, hl, hlx, hi⟩ := DataW.trod_struct ht hx
  have := h.go (xs := xs) (by rw [hl, hs, Nat.zero_add]) (by simpa using hlx) (fun i f hf => hi i f (by simpa using hf)) (fun m hm => hw m (by simpa only [DataW.weights, ht] using hm))
  simpa using this⟩
theorem list_of {p : Nat → α → Prop} (n : Nat) (h : ∀ i, i < n → ∃ a, p i a) : ∃ xs : List α, xs.length = n ∧ ∀ i a, xs[i]? = some a → p i a := by
  induction n with
  | zero => exact ⟨[], rfl, fun i a h => by simp at h⟩
  | succ n ih =>
    obtain ⟨xs, hl, hx⟩ := ih (fun i hi => h i (by omega))
    obtain ⟨a, ha⟩ := h n (by omega)
    refine ⟨xs ++ [a], by simp [hl], fun i b hb => ?_⟩
    rcases Nat.lt_or_ge i xs.length with hi | hi
    · rw [List.getElem?_append_left hi] at hb
      exact hx i b hb
    · rw [List.getElem?_append_right hi] at hb
      have h0 := (List.getElem?_eq_some_iff.1 hb).1
      simp only [List.length_singleton] at h0
      have hi' : i = n := by omega
      subst hi'
      rw [← hl] at hb ⊢
      simp at hb
      subst hb
      rw [hl]
      exact ha
theorem weightsAll_mem {H : Type} : ∀ {ds : List (DataW H)} {y : DataW H}, y ∈ ds → ∀ m ∈ y.weights P e, m ∈ DataW.weightsAll P e ds
  | d :: ds, y, hy, m, hm => by
    rcases List.mem_cons.1 hy with rfl | hy
    · simp only [DataW.weightsAll, List.mem_append]; exact .inl hm
    · simp only [DataW.weightsAll, List.mem_append]; exact .inr (weightsAll_mem hy m hm)
theorem opens_row (ht : P.underlying t = some (.slice e)) (h : Opens P d e Q) {H : Type} {enc : TypeId × Value → H} {w : World} {base : Nat} {spare : Nat → Bool} {held : Bool} {fuel : Nat} {cs : List Value} {x : DataW H × List MemPlace}
    (hx : DataW.trod enc P w base spare held fuel t cs = some x) (hw : ∀ m ∈ x.1.weights P t, m ≤ reachBytes) : ∃ A c xs, cs = [.slice A xs.length c] ∧ xs.length ≤ c ∧ d.C w A xs.length xs ∧ xs.length * P.bytesOf e ≤ reachBytes ∧ ∀ y ∈ xs, Q y := by
  rcases open_slice ht hx with ⟨rfl, rfl⟩ | ⟨a, len, cap, m, n, D, Pl, rfl, hb, hl, hm, hmm, rfl, hi⟩
  · exact ⟨none, 0, [], rfl, Nat.le_refl _, ⟨rfl, by simp, fun h0 => absurd h0 (by simp)⟩, by simp, by simp⟩
  · simp only [DataW.weights, ht, List.mem_cons, List.mem_append] at hw
    have hlm : len ≤ m := by rw [hmm]; split <;> omega
    have hi' : ∀ i, i < len → ∃ y, (∃ cs', w.cells? base (a.add (i * P.cellsOf e)) (P.cellsOf e) = some cs' ∧ d.K w y cs') ∧ Q y := by
      intro i hil
      obtain ⟨cs', hc, hx'⟩ := hi i (by omega)
      obtain ⟨y, hk, hq⟩ := h.go hx' (fun m' hm' => hw m' (.inr (.inl (weightsAll_mem (List.mem_map.2 ⟨i, List.mem_range.2 hil, rfl⟩) m' hm'))))
      exact ⟨y, ⟨cs', hc, hk⟩, hq⟩
    obtain ⟨xs, hxl, hxs⟩ := list_of len hi'
    subst hxl
    refine ⟨some a, cap, xs, rfl, hl, ⟨rfl, by simp only [maxLen] at hm; omega, fun _ => ⟨a, rfl, fun j p hj => ?_⟩⟩, ?_, fun y hy => ?_⟩
    · obtain ⟨⟨cs', hc, hk⟩, _⟩ := hxs j p hj
      refine ⟨cs', d.K_len hk, hk, fun i u hu => ?_⟩
      obtain ⟨_, hcl, hat⟩ := World.cells?_some hc
      have hil := (List.getElem?_eq_some_iff.1 hu).1
      have := hat i (by omega)
      rw [h.sz] at this
      rw [← Go.Deep.add_add, this, hu]
    · have := hw _ (.inl rfl)
      rw [List.length_map, List.length_range, List.length_map, List.length_range] at this
      exact Nat.le_trans (Nat.mul_le_mul_right _ (by omega)) this
    · obtain ⟨i, hil, rfl⟩ := List.mem_iff_getElem.1 hy
      exact (hxs i _ (List.getElem?_eq_getElem hil)).2
theorem opens_slice {e' : Nat} (ht : P.underlying t = some (.slice e)) (hs : P.cellsOf t = 1) (h : Opens P d e Q) : Opens P (Kd.slice e' d) t (fun xs => xs.length * P.bytesOf e ≤ reachBytes ∧ ∀ y ∈ xs, Q y) := ⟨hs, fun hx hw => by
  obtain ⟨A, c, xs, rfl, hl, hC, hb, hq⟩ := opens_row ht h hx hw
  exact ⟨xs, ⟨A, c, rfl, hl, hC⟩, hb, hq⟩⟩
theorem heap_F (hd : Kd.Heap d) {w : World} {A : Option Addr} {n : Nat} {xs : List α} (h : d.C w A n xs) : Kd.F d w (fun _ => True) A n xs := fun W' hW => hd.C (fun k hk => hW k trivial hk) h
/-- A parameter that is a row. -/
theorem open_V (ht : P.underlying t = some (.slice e)) (h : Opens P d e Q) (hd : Kd.Heap d) (e' : Nat) {H : Type} {enc : TypeId × Value → H} {w : World} {base : Nat} {spare : Nat → Bool} {held : Bool} {v : Value} {y : DataW H} {ps : List MemPlace} {r : Reach} {b0 : Nat}
    (hv : Value.okWide P w r b0 t v) (hx : DataW.Trod enc P w base spare held t v y ps) (hw : ∀ m ∈ y.weights P t, m ≤ reachBytes) : ∃ A c xs, v = .slice A xs.length c ∧ Kd.V d e' w w.heap.size (fun _ => True) (.slice A xs.length c) xs ∧ xs.length * P.bytesOf e ≤ reachBytes ∧ ∀ z ∈ xs, Q z := by
  obtain ⟨a, len, cap, rfl⟩ := okWide_slice ht hv
  obtain ⟨fuel, hx⟩ := hx
  obtain ⟨A, c, xs, hcs, hl, hC, hb, hq⟩ := opens_row ht h hx hw
  simp only [Value.cells, List.cons.injEq, Value.slice.injEq, and_true] at hcs
  obtain ⟨rfl, rfl, rfl⟩ := hcs
  exact ⟨a, cap, xs, rfl, ⟨a, cap, rfl, hl, heap_F hd hC⟩, hb, hq⟩
/-- A parameter that is a struct. -/
theorem open_K {fa : Array Field} (ht : P.underlying t = some (.struct fa)) (h : Opens P d t Q) {H : Type} {enc : TypeId × Value → H} {w : World} {base : Nat} {spare : Nat → Bool} {held : Bool} {v : Value} {y : DataW H} {ps : List MemPlace} {r : Reach} {b0 : Nat}
    (hv : Value.okWide P w r b0 t v) (hx : DataW.Trod enc P w base spare held t v y ps) (hw : ∀ m ∈ y.weights P t, m ≤ reachBytes) : ∃ cs a, v = .agg cs.toArray ∧ d.K w a cs ∧ Q a := by
  obtain ⟨cs, rfl, hsz⟩ := okWide_struct ht hv
  obtain ⟨fuel, hx⟩ := hx
  obtain ⟨a, hk, hq⟩ := h.go hx hw
  exact ⟨cs.toList, a, by simp, hk, hq⟩
theorem weights_of {ts : List TypeId} {H : Type} {ds : List (DataW H)} {j : Nat} {y : DataW H} (h : (DataW.weightsEach P ts ds).all (· ≤ reachBytes) = true) (ht : ts[j]? = some t) (hd : ds[j]? = some y) : ∀ m ∈ y.weights P t, m ≤ reachBytes := fun m hm => by
  simpa using List.all_eq_true.1 h m (DataW.weights_mem_each ht hd m hm)
end
end Go.Proofs.Ytipjnfljkknmgaa.Q
namespace Go.Proofs.Ytipjnfljkknmgaa.Q
open Go.RowKit Go.Proofs.YtipjnfljkknmgaaW.PrintWords Go.Proofs.YtipjnfljkknmgaaW.PrintLast Go.Proofs.YtipjnfljkknmgaaW.PrintMore
set_option linter.unusedVariables false
theorem opens_i64 {P : Program} {t : TypeId} (ht : P.underlying t = some (.int .i64)) (hs : P.cellsOf t = 1) : Opens P (Kd.int .i64) t (fun x => -9223372036854775808 ≤ x ∧ x ≤ 9223372036854775807) := ⟨hs, fun h hw => by
  obtain ⟨a, hk, ha⟩ := (opens_int ht hs).go h hw
  refine ⟨a, hk, ?_⟩
  simp [Lit.wf, IntKind.min, IntKind.max, IntKind.signed, IntKind.bits] at ha
  omega⟩
theorem opens_u64 {P : Program} {t : TypeId} (ht : P.underlying t = some (.int .u64)) (hs : P.cellsOf t = 1) : Opens P (Kd.int .u64) t (fun x => 0 ≤ x ∧ x < 18446744073709551616) := ⟨hs, fun h hw => by
  obtain ⟨a, hk, ha⟩ := (opens_int ht hs).go h hw
  refine ⟨a, hk, ?_⟩
  simp [Lit.wf, IntKind.min, IntKind.max, IntKind.signed, IntKind.bits] at ha
  omega⟩
theorem opens_rows {P : Program} {t e : TypeId} {α : Type} {d : Kd α} {Q : α → Prop} {e' B : Nat} (ht : P.underlying t = some (.slice e)) (hs : P.cellsOf t = 1) (hb : P.bytesOf e = B) (h : Opens P d e Q) : Opens P (Kd.slice e' d) t (fun xs => xs.length * B ≤ 140737488351232 ∧ ∀ y ∈ xs, Q y) := by subst hb; exact opens_slice ht hs h
theorem open_row {P : Program} {t e : TypeId} {α : Type} {d : Kd α} {Q : α → Prop} {B : Nat} (ht : P.underlying t = some (.slice e)) (hb : P.bytesOf e = B) (h : Opens P d e Q) (hd : Kd.Heap d) (e' : Nat) {H : Type} {enc : TypeId × Value → H} {w : World} {base : Nat} {spare : Nat → Bool} {held : Bool} {v : Value} {y : DataW H} {ps : List MemPlace} {r : Reach} {b0 : Nat}
    (hv : Value.okWide P w r b0 t v) (hx : DataW.Trod enc P w base spare held t v y ps) (hw : ∀ m ∈ y.weights P t, m ≤ reachBytes) : ∃ A c xs, v = .slice A xs.length c ∧ Kd.V d e' w w.heap.size (fun _ => True) (.slice A xs.length c) xs ∧ xs.length * B ≤ 140737488351232 ∧ ∀ z ∈ xs, Q z := by subst hb; exact open_V ht h hd e' hv hx hw
def ok32 (x : S32) : Prop := (-9223372036854775808 ≤ x.f0 ∧ x.f0 ≤ 9223372036854775807) ∧ (0 ≤ x.f1 ∧ x.f1 < 18446744073709551616)
theorem heap_32 : Kd.Heap k32 := Kd.heap_iso _ (Kd.heap_pair (Kd.heap_int _) (Kd.heap_int _))
theorem opens_32 : Opens Try.prog k32 32 ok32 := opens_iso (opens_struct Try.underlying32 (by kernel_rfl) (opensF_cons rfl (opens_i64 Try.underlying3 (by kernel_rfl)) (opensF_one rfl (opens_u64 Try.underlying22 (by kernel_rfl))))) (fun p => ⟨p.1, p.2⟩) (fun _ => rfl) (fun p h => h)
def ok25 (x : S25) : Prop := (0 ≤ x.f0 ∧ x.f0 < 18446744073709551616) ∧ (x.f1.length * 16 ≤ 140737488351232 ∧ ∀ y ∈ x.f1, ok32 y)
theorem opens_25 : Opens Try.prog k25 25 ok25 := opens_iso (opens_struct Try.underlying25 (by kernel_rfl) (opensF_cons rfl (opens_u64 Try.underlying22 (by kernel_rfl)) (opensF_one rfl (opens_rows (B := 16) Try.underlying23 (by kernel_rfl) (by kernel_rfl) opens_32)))) (fun p => ⟨p.1, p.2⟩) (fun _ => rfl) (fun p h => h)
end Go.Proofs.Ytipjnfljkknmgaa.Q
namespace Go.Proofs.Ytipjnfljkknmgaa.Q
open Go.RowKit Go.Proofs.YtipjnfljkknmgaaW.PrintWords Go.Proofs.YtipjnfljkknmgaaW.PrintLast Go.Proofs.YtipjnfljkknmgaaW.PrintMore
attribute [local go_sem] max2_int min2_int max_two min_two max_three min_three max_four min_four   -- for this text's walks alone
set_option linter.unusedVariables false
set_option linter.unusedSimpArgs false
def scrivenerref14_Missing.f (k : Nat) (l0 : List (S32)) (a1 : Int) (a2 : Int) (l3 : List (S32)) : Option (Bool) := if a2 > a1 then (some true) else ((scrivenerref14_Among.f k l0 l3).bind fun t202 => (some (decide (t202 > (wrap64 (a1 - a2))))))
set_option maxHeartbeats 8000000 in
set_option maxRecDepth 100000 in
theorem scrivenerref14_Missing.calls (k : Nat) (A0 : Option Addr) (c0 : Nat) (l0 : List (S32)) (a1 : Int) (a2 : Int) (A3 : Option Addr) (c3 : Nat) (l3 : List (S32)) (r : Bool) (w : World) (hr0 : Kd.C k32 w A0 l0.length l0) (hc0 : l0.length ≤ c0) (hr3 : Kd.C k32 w A3 l3.length l3) (hc3 : l3.length ≤ c3) (h : scrivenerref14_Missing.f k l0 a1 a2 l3 = some r) :
    Calls Try.prog 20 #[.slice A0 l0.length c0, .int .i64 a1, .int .i64 a2, .slice A3 l3.length c3] w fun e w' => e = .returned (.bool r) ∧ Drawn0 w w' := by
  have HR0 := Aside0.mk hr0
  have HC0 := Aside0.mk hc0
  clear hr0 hc0
  have HR3 := Aside0.mk hr3
  have HC3 := Aside0.mk hc3
  clear hr3 hc3
  have H : (if a2 > a1 then (some true) else ((scrivenerref14_Among.f k l0 l3).bind fun t202 => (some (decide (t202 > (wrap64 (a1 - a2))))))) = some r := h
  clear h
  by_cases c5 : a2 > a1
  · rw [if_pos c5] at H
    have c5b0 : decide (a1 < a2) = true := decide_eq_true c5
    clear c5
    obtain rfl := Option.some.inj H
    go_enter Try.func20, Try.ntmps20
    go_wp2
    go_ret
    exact ⟨by first | rfl | (simp; done) | (simp [*]; done), by repeat (first | exact Drawn0.refl _ | apply Drawn0.step)⟩
  · rw [if_neg c5] at H
    have c5b0 : decide (a1 < a2) = false := decide_eq_false c5
    clear c5
    replace H := Option.bind_eq_some_iff.mp H
    obtain ⟨t202, A60, H⟩ := H
    replace H : (some (decide (t202 > (wrap64 (a1 - a2))))) = some r := H
    have A6 := Aside0.mk A60
    clear A60
    obtain rfl := Option.some.inj H
    go_enter Try.func20, Try.ntmps20
    go_wp2_with (first | ((with_reducible refine gate_callee (f := 14) rfl ?_); refine goesL_ (some 14) rfl rfl Try.func14 (by kernel_rfl) rfl #[.slice A0 l0.length c0, .slice A3 l3.length c3] rfl (by (try simp only [List.map_toArray, List.map_cons, List.map_nil]); first | done | rfl | (simp only [List.length_drop, List.length_take]; rfl)) ?_; (with_reducible refine (scrivenerref14_Among.calls k _ _ l0 _ _ l3 t202 _ ?side1 ?side2 ?side3 ?side4 A6.out).mono ?_); (case side1 => repeat (first | exact HR0.out | (with_reducible refine Kd.C_alloc ?_ _) | (with_reducible refine Kd.C_drewN ?_ _) | (with_reducible refine Kd.C_drew ?_))); (case side2 => exact HC0.out); (case side3 => repeat (first | exact HR3.out | (with_reducible refine Kd.C_alloc ?_ _) | (with_reducible refine Kd.C_drewN ?_ _) | (with_reducible refine Kd.C_drew ?_))); (case side4 => exact HC3.out); rintro e w' ⟨rfl, ⟨nd, rfl⟩⟩; refine ⟨_, rfl, ?_⟩))
    go_ret
    exact ⟨by first | rfl | (simp; done) | (simp [*]; done), by repeat (first | exact Drawn0.refl _ | apply Drawn0.step)⟩
end Go.Proofs.Ytipjnfljkknmgaa.Q
namespace Go.Proofs.Ytipjnfljkknmgaa.Q
open Go.RowKit Go.Proofs.YtipjnfljkknmgaaW.PrintWords Go.Proofs.YtipjnfljkknmgaaW.PrintLast Go.Proofs.YtipjnfljkknmgaaW.PrintMore
attribute [local go_sem] max2_int min2_int max_two min_two max_three min_three max_four min_four   -- for this text's walks alone
set_option linter.unusedVariables false
set_option linter.unusedSimpArgs false
def scrivenerref14_Acked.f (k : Nat) (l0 : List (S32)) (a1 : Int) (l2 : List (S32)) : Option (Bool) := if a1 > 0 then ((scrivenerref14_Among.f k l0 l2).bind fun t201 => (some (decide (t201 ≥ a1)))) else (some false)
set_option maxHeartbeats 8000000 in
set_option maxRecDepth 100000 in
theorem scrivenerref14_Acked.calls (k : Nat) (A0 : Option Addr) (c0 : Nat) (l0 : List (S32)) (a1 : Int) (A2 : Option Addr) (c2 : Nat) (l2 : List (S32)) (r : Bool) (w : World) (hr0 : Kd.C k32 w A0 l0.length l0) (hc0 : l0.length ≤ c0) (hr2 : Kd.C k32 w A2 l2.length l2) (hc2 : l2.length ≤ c2) (h : scrivenerref14_Acked.f k l0 a1 l2 = some r) :
    Calls Try.prog 18 #[.slice A0 l0.length c0, .int .i64 a1, .slice A2 l2.length c2] w fun e w' => e = .returned (.bool r) ∧ Drawn0 w w' := by
  have HR0 := Aside0.mk hr0
  have HC0 := Aside0.mk hc0
  clear hr0 hc0
  have HR2 := Aside0.mk hr2
  have HC2 := Aside0.mk hc2
  clear hr2 hc2
  have H : (if a1 > 0 then ((scrivenerref14_Among.f k l0 l2).bind fun t201 => (some (decide (t201 ≥ a1)))) else (some false)) = some r := h
  clear h
  by_cases c4 : a1 > 0
  · rw [if_pos c4] at H
    have c4b0 : decide (0 < a1) = true := decide_eq_true c4
    clear c4
    replace H := Option.bind_eq_some_iff.mp H
    obtain ⟨t201, A50, H⟩ := H
    replace H : (some (decide (t201 ≥ a1))) = some r := H
    have A5 := Aside0.mk A50
    clear A50
    obtain rfl := Option.some.inj H
    go_enter Try.func18, Try.ntmps18
    go_wp2_with (first | (go_at_call 14; (with_reducible refine (scrivenerref14_Among.calls k _ _ l0 _ _ l2 t201 _ ?side1 ?side2 ?side3 ?side4 A5.out).mono ?_); (case side1 => repeat (first | exact HR0.out | (with_reducible refine Kd.C_alloc ?_ _) | (with_reducible refine Kd.C_drewN ?_ _) | (with_reducible refine Kd.C_drew ?_))); (case side2 => exact HC0.out); (case side3 => repeat (first | exact HR2.out | (with_reducible refine Kd.C_alloc ?_ _) | (with_reducible refine Kd.C_drewN ?_ _) | (with_reducible refine Kd.C_drew ?_))); (case side4 => exact HC2.out); rintro e w' ⟨rfl, ⟨nd, rfl⟩⟩))
    go_ret
    exact ⟨by first | rfl | (simp; done) | (simp [*]; done), by repeat (first | exact Drawn0.refl _ | apply Drawn0.step)⟩
  · rw [if_neg c4] at H
    have c4b0 : decide (0 < a1) = false := decide_eq_false c4
    clear c4
    obtain rfl := Option.some.inj H
    go_enter Try.func18, Try.ntmps18
    go_wp2
    go_ret
    exact ⟨by first | rfl | (simp; done) | (simp [*]; done), by repeat (first | exact Drawn0.refl _ | apply Drawn0.step)⟩
end Go.Proofs.Ytipjnfljkknmgaa.Q
namespace Go.Proofs.Ytipjnfljkknmgaa.Q
open Go.RowKit Go.Proofs.YtipjnfljkknmgaaW.PrintWords Go.Proofs.YtipjnfljkknmgaaW.PrintLast Go.Proofs.YtipjnfljkknmgaaW.PrintMore
attribute [local go_sem] max2_int min2_int max_two min_two max_three min_three max_four min_four   -- for this text's walks alone
set_option linter.unusedVariables false
set_option linter.unusedSimpArgs false
def scrivenerref14_Frag.l0 : Nat → List (S25) → Int → Int → Option (Int)
  | 0, _, _, _ => none
  | k + 1, x0, x1, x5 => if x5 ≥ 0 then (if 0 ≤ x5 then (if x5 < (x0.length : Int) then (if ((rd_T25 x0 x5).f0) ≤ x1 then (some x5) else (scrivenerref14_Frag.l0 k x0 x1 (wrap64 (x5 - 1)))) else (none)) else (none)) else (some (-1))
def scrivenerref14_Frag.f (k : Nat) (l0 : List (S25)) (a1 : Int) : Option (Int) := scrivenerref14_Frag.l0 k l0 a1 (wrap64 ((l0.length : Int) - 1))
set_option maxHeartbeats 8000000 in
set_option maxRecDepth 100000 in
theorem scrivenerref14_Frag.calls (k : Nat) (A0 : Option Addr) (c0 : Nat) (l0 : List (S25)) (a1 : Int) (r : Int) (w : World) (hr0 : Kd.C k25 w A0 l0.length l0) (hc0 : l0.length ≤ c0) (h : scrivenerref14_Frag.f k l0 a1 = some r) :
    Calls Try.prog 55 #[.slice A0 l0.length c0, .int .u64 a1] w fun e w' => e = .returned (.int .i64 r) ∧ Drawn0 w w' := by
  have HR0 := Aside0.mk hr0
  have HC0 := Aside0.mk hc0
  clear hr0 hc0
  have H : (scrivenerref14_Frag.l0 k l0 a1 (wrap64 ((l0.length : Int) - 1))) = some r := h
  clear h
  have H' := Aside0.mk H
  clear H
  go_enter Try.func55, Try.ntmps55
  go_wp2
  go_loopg [5] k (fun kq v5 w' => ∃ (x5_1 : Int), v5 = .int .i64 x5_1 ∧ Aside0 (scrivenerref14_Frag.l0 kq l0 a1 x5_1 = some r) ∧ Aside0 (kq ≤ k) ∧ Drawn0 w w')
  case atStart => exact ⟨(wrap64 ((l0.length : Int) - 1)), (by first | rfl | (simp; done) | (simp [*]; done)), H', ⟨Nat.le_refl _⟩, by repeat (first | exact Drawn0.refl _ | apply Drawn0.step)⟩
  case round =>
    clear H'
    try clear p2
    obtain ⟨x5_1, rfl, HA, HK1, ⟨m1, rfl⟩⟩ := hrel
    cases gk with
    | zero => exact absurd HA.out (by simp [scrivenerref14_Frag.l0])
    | succ k1 =>
      have H := HA.out
      clear HA
      simp only [scrivenerref14_Frag.l0] at H
      by_cases c3 : x5_1 ≥ 0
      · rw [if_pos c3] at H
        have c3b0 : decide (0 ≤ x5_1) = true := decide_eq_true c3
        clear c3
        by_cases c4 : 0 ≤ x5_1
        · rw [if_pos c4] at H
          have c4b0 : decide (0 ≤ x5_1) = true := decide_eq_true c4
          clear c4
          by_cases c5 : x5_1 < (l0.length : Int)
          · rw [if_pos c5] at H
            have c5b0 : decide (x5_1 < (l0.length : Int)) = true := decide_eq_true c5
            clear c5
            by_cases c6 : ((rd_T25 l0 x5_1).f0) ≤ a1
            · rw [if_pos c6] at H
              have c6b0 : decide (((rd_T25 l0 x5_1).f0) ≤ a1) = true := decide_eq_true c6
              clear c6
              obtain rfl := Option.some.inj H
              have p203 : 0 ≤ (x5_1 : Int) := of_decide_eq_true (by first | (with_reducible assumption) | assumption)
              have q203 : x5_1 < (l0.length : Int) := of_decide_eq_true (by first | (with_reducible assumption) | assumption)
              obtain ⟨ad203, A203_1, c203_1, e203, hx203_0, hx203_1, hl203_1, hi203_1⟩ := at_T25 HR0.out x5_1 p203 q203
              cases e203
              have HR203_1 := Aside0.mk hi203_1
              have HC203_1 := Aside0.mk hl203_1
              clear hi203_1 hl203_1
              replace p203 := eq_true p203
              replace q203 := eq_true q203
              go_wp2
              go_ret
              exact ⟨by first | rfl | (simp; done) | (simp [*]; done), by repeat (first | exact Drawn0.refl _ | apply Drawn0.step)⟩
            · rw [if_neg c6] at H
              have c6b0 : decide (((rd_T25 l0 x5_1).f0) ≤ a1) = false := decide_eq_false c6
              clear c6
              have H' := Aside0.mk H
              clear H
              have p203 : 0 ≤ (x5_1 : Int) := of_decide_eq_true (by first | (with_reducible assumption) | assumption)
              have q203 : x5_1 < (l0.length : Int) := of_decide_eq_true (by first | (with_reducible assumption) | assumption)
              obtain ⟨ad203, A203_1, c203_1, e203, hx203_0, hx203_1, hl203_1, hi203_1⟩ := at_T25 HR0.out x5_1 p203 q203
              cases e203
              have HR203_1 := Aside0.mk hi203_1
              have HC203_1 := Aside0.mk hl203_1
              clear hi203_1 hl203_1
              replace p203 := eq_true p203
              replace q203 := eq_true q203
              go_wp2
              go_roundg k1
              case measure => have := HK1.out; omega
              case rel => exact ⟨(wrap64 (x5_1 - 1)), (by first | rfl | (simp; done) | (simp [*]; done)), H', ⟨by have := HK1.out; omega⟩, by repeat (first | exact Drawn0.refl _ | apply Drawn0.step)⟩
          · rw [if_neg c5] at H
            exact absurd H (by simp)
        · rw [if_neg c4] at H
          exact absurd H (by simp)
      · rw [if_neg c3] at H
        have c3b0 : decide (0 ≤ x5_1) = false := decide_eq_false c3
        clear c3
        obtain rfl := Option.some.inj H
        go_wp2
        go_ret
        exact ⟨by first | rfl | (simp; done) | (simp [*]; done), by repeat (first | exact Drawn0.refl _ | apply Drawn0.step)⟩
end Go.Proofs.Ytipjnfljkknmgaa.Q
namespace Go.Proofs.Ytipjnfljkknmgaa.Q
open Go.RowKit Go.Proofs.YtipjnfljkknmgaaW.PrintWords Go.Proofs.YtipjnfljkknmgaaW.PrintLast Go.Proofs.YtipjnfljkknmgaaW.PrintMore
attribute [local go_sem] max2_int min2_int max_two min_two max_three min_three max_four min_four   -- for this text's walks alone
set_option linter.unusedVariables false
set_option linter.unusedSimpArgs false
mutual
def scrivenerref14_Set.j0 : Nat → List (S25) → Int → Int → Int → Bool → Option ((List (S32)))
  | 0, _, _, _, _, _ => none
  | k + 1, x0, x1, x2, x7, x29 => if x29 = true then (some ([] : List (S32))) else (if 0 ≤ x7 then (if x7 < (x0.length : Int) then (if (IntKind.u64.wrap ((((rd_T25 x0 x7).f1).length : Int))) = 0 then (none) else (scrivenerref14_Set.l0 k x1 ([] : List (S32)) ((rd_T25 x0 x7).f1) (wrap64 (Int.tmod (IntKind.u64.wrap (x2 - ((rd_T25 x0 x7).f0))) (IntKind.u64.wrap ((((rd_T25 x0 x7).f1).length : Int))))))) else (none)) else (none))
def scrivenerref14_Set.l0 : Nat → Int → List (S32) → List (S32) → Int → Option ((List (S32)))
  | 0, _, _, _, _ => none
  | k + 1, x1, x8, x9, x10 => if (x8.length : Int) < x1 then (if 0 ≤ x10 then (if x10 < (x9.length : Int) then (if x8.length < 8796093022208 then ((some (x8 ++ [(⟨(rd_T32 x9 x10).f0, (rd_T32 x9 x10).f1⟩ : S32)] : List (S32))).bind fun y209 => (if (wrap64 (x10 + 1)) = (x9.length : Int) then (scrivenerref14_Set.l0 k x1 y209 x9 0) else (scrivenerref14_Set.l0 k x1 y209 x9 (wrap64 (x10 + 1))))) else (none)) else (none)) else (none)) else (some x8)
end
def scrivenerref14_Set.f (k : Nat) (l0 : List (S25)) (a1 : Int) (a2 : Int) : Option ((List (S32))) := (scrivenerref14_Frag.f k l0 a2).bind fun t204 => (if t204 < 0 then (scrivenerref14_Set.j0 k l0 a1 a2 t204 true) else (if a1 < 1 then (scrivenerref14_Set.j0 k l0 a1 a2 t204 true) else (if 0 ≤ t204 then (if t204 < (l0.length : Int) then (scrivenerref14_Set.j0 k l0 a1 a2 t204 (decide (a1 > (((rd_T25 l0 t204).f1).length : Int)))) else (none)) else (none))))
set_option maxHeartbeats 8000000 in
set_option maxRecDepth 100000 in
theorem scrivenerref14_Set.calls (k : Nat) (A0 : Option Addr) (c0 : Nat) (l0 : List (S25)) (a1 : Int) (a2 : Int) (r : List (S32)) (w : World) (hr0 : Kd.C k25 w A0 l0.length l0) (hc0 : l0.length ≤ c0) (h : scrivenerref14_Set.f k l0 a1 a2 = some r) :
    Calls Try.prog 39 #[.slice A0 l0.length c0, .int .i64 a1, .int .u64 a2] w fun e w' => ∃ v0_ : Value, e = .returned (v0_) ∧ Kd.R k32 32 w' w.heap.size (fun _ => True) v0_ r ∧ Below w.heap.size w w' := by
  have hu32 := Try.underlying32
  have HR0 := Aside0.mk hr0
  have HC0 := Aside0.mk hc0
  clear hr0 hc0
  have HB := Aside0.mk (Below.refl w.heap.size w)
  have H : ((scrivenerref14_Frag.f k l0 a2).bind fun t204 => (if t204 < 0 then (scrivenerref14_Set.j0 k l0 a1 a2 t204 true) else (if a1 < 1 then (scrivenerref14_Set.j0 k l0 a1 a2 t204 true) else (if 0 ≤ t204 then (if t204 < (l0.length : Int) then (scrivenerref14_Set.j0 k l0 a1 a2 t204 (decide (a1 > (((rd_T25 l0 t204).f1).length : Int)))) else (none)) else (none))))) = some r := h
  clear h
  replace H := Option.bind_eq_some_iff.mp H
  obtain ⟨t204, A40, H⟩ := H
  replace H : (if t204 < 0 then (scrivenerref14_Set.j0 k l0 a1 a2 t204 true) else (if a1 < 1 then (scrivenerref14_Set.j0 k l0 a1 a2 t204 true) else (if 0 ≤ t204 then (if t204 < (l0.length : Int) then (scrivenerref14_Set.j0 k l0 a1 a2 t204 (decide (a1 > (((rd_T25 l0 t204).f1).length : Int)))) else (none)) else (none)))) = some r := H
  have A4 := Aside0.mk A40
  clear A40
  have HC5 := Aside0.mk H
  clear H
  go_enter Try.func39, Try.ntmps39
  go_upto_region 2 with (first | ((with_reducible refine gate_callee (f := 55) rfl ?_); refine goesL_ (some 13) rfl rfl Try.func55 (by kernel_rfl) rfl #[.slice A0 l0.length c0, .int .u64 a2] rfl (by (try simp only [List.map_toArray, List.map_cons, List.map_nil]); first | done | rfl | (simp only [List.length_drop, List.length_take]; rfl)) ?_; (with_reducible refine (scrivenerref14_Frag.calls k _ _ l0 a2 t204 _ ?side1 ?side2 A4.out).mono ?_); (case side1 => repeat (first | exact HR0.out | (with_reducible refine Kd.C_alloc ?_ _) | (with_reducible refine Kd.C_drewN ?_ _) | (with_reducible refine Kd.C_drew ?_))); (case side2 => exact HC0.out); rintro e w' ⟨rfl, ⟨nd, rfl⟩⟩; refine ⟨_, rfl, ?_⟩))
  (try simp only [Act.put, List.setIfInBounds_toArray, List.set_cons_zero, List.set_cons_succ])
  go_cut [29] (fun v29 wc => ∃ (kq : Nat) (x29_4 : Bool), v29 = .bool x29_4 ∧ Aside0 (scrivenerref14_Set.j0 kq l0 a1 a2 t204 x29_4 = some r) ∧ Aside0 (kq ≤ k) ∧ Aside0 (Below w.heap.size w wc))
  case first =>
    have H := HC5.out
    clear HC5
    by_cases c6 : t204 < 0
    · rw [if_pos c6] at H
      have c6b0 : decide (t204 < 0) = true := decide_eq_true c6
      clear c6
      (first | rw [c6b0] | (simp only [i64_w, i32_w]; rw [c6b0]) | skip)
      have H' := Aside0.mk H
      clear H
      go_wp2
      go_meet
      case rel => exact ⟨_, (true), (by first | rfl | (simp; done) | (simp [*]; done)), H', ⟨by first | omega | exact Nat.le_refl _⟩, ⟨by repeat (first | (with_reducible first | exact HB.out | apply below_alloc | apply pw_below_drewN | apply below_drew1) | exact HB.out)⟩⟩
    · rw [if_neg c6] at H
      have c6b0 : decide (t204 < 0) = false := decide_eq_false c6
      clear c6
      (first | rw [c6b0] | (simp only [i64_w, i32_w]; rw [c6b0]) | skip)
      by_cases c7 : a1 < 1
      · rw [if_pos c7] at H
        have c7b0 : decide (a1 < 1) = true := decide_eq_true c7
        clear c7
        have H' := Aside0.mk H
        clear H
        go_wp2
        go_meet
        case rel => exact ⟨_, (true), (by first | rfl | (simp; done) | (simp [*]; done)), H', ⟨by first | omega | exact Nat.le_refl _⟩, ⟨by repeat (first | (with_reducible first | exact HB.out | apply below_alloc | apply pw_below_drewN | apply below_drew1) | exact HB.out)⟩⟩
      · rw [if_neg c7] at H
        have c7b0 : decide (a1 < 1) = false := decide_eq_false c7
        clear c7
        by_cases c8 : 0 ≤ t204
        · rw [if_pos c8] at H
          have c8b0 : decide (0 ≤ t204) = true := decide_eq_true c8
          clear c8
          by_cases c9 : t204 < (l0.length : Int)
          · rw [if_pos c9] at H
            have c9b0 : decide (t204 < (l0.length : Int)) = true := decide_eq_true c9
            clear c9
            have H' := Aside0.mk H
            clear H
            have p205 : 0 ≤ (t204 : Int) := of_decide_eq_true (by first | (with_reducible assumption) | assumption)
            have q205 : t204 < (l0.length : Int) := of_decide_eq_true (by first | (with_reducible assumption) | assumption)
            obtain ⟨ad205, A205_1, c205_1, e205, hx205_0, hx205_1, hl205_1, hi205_1⟩ := at_T25 HR0.out t204 p205 q205
            cases e205
            replace hx205_0 := (HB.out.cell (World.block_lt_of_cell? w _ hx205_0)).trans hx205_0
            replace hx205_1 := (HB.out.cell (World.block_lt_of_cell? w _ hx205_1)).trans hx205_1
            have HR205_1 := Aside0.mk hi205_1
            have HC205_1 := Aside0.mk hl205_1
            clear hi205_1 hl205_1
            replace p205 := eq_true p205
            replace q205 := eq_true q205
            go_wp2
            go_meet
            case rel => exact ⟨_, (decide (a1 > (((rd_T25 l0 t204).f1).length : Int))), (by first | rfl | (simp; done) | (simp [*]; done)), H', ⟨by first | omega | exact Nat.le_refl _⟩, ⟨by repeat (first | (with_reducible first | exact HB.out | apply below_alloc | apply pw_below_drewN | apply below_drew1) | exact HB.out)⟩⟩
          · rw [if_neg c9] at H
            exact absurd H (by simp)
        · rw [if_neg c8] at H
          exact absurd H (by simp)
  case rest =>
    clear HC5
    try clear c2
    try clear p2
    try clear q2
    try clear hx2
    try clear c3
    try clear c5
    try clear c6
    try clear c6b0
    try clear c7
    try clear c7b0
    try clear c8
    try clear c8b0
    try clear c9
    try clear c9b0
    try clear hx205_0
    try clear hx205_1
    try clear p205
    try clear q205
    obtain ⟨kq, x29_4, rfl, HA, HJ4, HB⟩ := hcut
    cases kq with
    | zero => exact absurd HA.out (by simp [scrivenerref14_Set.j0])
    | succ kj4 =>
      have H := HA.out
      clear HA
      simp only [scrivenerref14_Set.j0] at H
      by_cases c10 : x29_4 = true
      · subst c10
        have H1 : (some ([] : List (S32))) = some r := by rw [if_pos rfl] at H; exact H
        clear H
        have H := H1
        clear H1
        obtain rfl := Option.some.inj H
        go_wp2
        go_ret
        exact ⟨_, by first | rfl | (simp [errW_none, errW_some] <;> rfl) | (simp [*, errW_none, errW_some] <;> rfl), by first | exact Kd.R_nil _ _ _ _ _ | exact Kd.N_nil _ _ _ _ _ | exact Kd.V_nil _ _ _ _ _ | exact Kd.Q_nil _ _ _ _ _ | exact Kd.S_nil _ _ _ _ _, by repeat (first | (with_reducible first | exact HB.out | apply below_alloc | apply pw_below_drewN | apply below_drew1) | exact HB.out)⟩
      · replace c10 := Bool.eq_false_iff.mpr c10
        subst c10
        have H1 : (if 0 ≤ t204 then (if t204 < (l0.length : Int) then (if (IntKind.u64.wrap ((((rd_T25 l0 t204).f1).length : Int))) = 0 then (none) else (scrivenerref14_Set.l0 kj4 a1 ([] : List (S32)) ((rd_T25 l0 t204).f1) (wrap64 (Int.tmod (IntKind.u64.wrap (a2 - ((rd_T25 l0 t204).f0))) (IntKind.u64.wrap ((((rd_T25 l0 t204).f1).length : Int))))))) else (none)) else (none)) = some r := by rw [if_neg (show ¬ (false = true) by decide)] at H; exact H
        clear H
        have H := H1
        clear H1
        by_cases c11 : 0 ≤ t204
        · rw [if_pos c11] at H
          have c11b0 : decide (0 ≤ t204) = true := decide_eq_true c11
          clear c11
          by_cases c12 : t204 < (l0.length : Int)
          · rw [if_pos c12] at H
            have c12b0 : decide (t204 < (l0.length : Int)) = true := decide_eq_true c12
            clear c12
            by_cases c13 : (IntKind.u64.wrap ((((rd_T25 l0 t204).f1).length : Int))) = 0
            · rw [if_pos c13] at H
              exact absurd H (by simp)
            · rw [if_neg c13] at H
              have c13b0 : ((IntKind.u64.wrap ((((rd_T25 l0 t204).f1).length : Int))) == 0) = false := beq_eq_false_iff_ne.mpr c13
              have c13b1 : ((IntKind.u64.wrap ((((rd_T25 l0 t204).f1).length : Int))) != 0) = true := bne_iff_ne.mpr c13
              have H' := Aside0.mk H
              clear H
              have p206 : 0 ≤ (t204 : Int) := of_decide_eq_true (by first | (with_reducible assumption) | assumption)
              have q206 : t204 < (l0.length : Int) := of_decide_eq_true (by first | (with_reducible assumption) | assumption)
              obtain ⟨ad206, A206_1, c206_1, e206, hx206_0, hx206_1, hl206_1, hi206_1⟩ := at_T25 HR0.out t204 p206 q206
              cases e206
              replace hx206_0 := (HB.out.cell (World.block_lt_of_cell? w _ hx206_0)).trans hx206_0
              replace hx206_1 := (HB.out.cell (World.block_lt_of_cell? w _ hx206_1)).trans hx206_1
              have HR206_1 := Aside0.mk hi206_1
              have HC206_1 := Aside0.mk hl206_1
              clear hi206_1 hl206_1
              replace p206 := eq_true p206
              replace q206 := eq_true q206
              have p207 : 0 ≤ (t204 : Int) := of_decide_eq_true (by first | (with_reducible assumption) | assumption)
              have q207 : t204 < (l0.length : Int) := of_decide_eq_true (by first | (with_reducible assumption) | assumption)
              obtain ⟨ad207, A207_1, c207_1, e207, hx207_0, hx207_1, hl207_1, hi207_1⟩ := at_T25 HR0.out t204 p207 q207
              obtain rfl : ad206 = ad207 := (by injection e207)
              replace hx207_0 := (HB.out.cell (World.block_lt_of_cell? w _ hx207_0)).trans hx207_0
              replace hx207_1 := (HB.out.cell (World.block_lt_of_cell? w _ hx207_1)).trans hx207_1
              have HR207_1 := Aside0.mk hi207_1
              have HC207_1 := Aside0.mk hl207_1
              clear hi207_1 hl207_1
              replace p207 := eq_true p207
              replace q207 := eq_true q207
              have ea_ := Option.some.inj (hx206_1.symm.trans hx207_1)
              injection ea_ with ea_ en_ ec_
              subst ea_
              subst ec_
              clear en_
              go_wp2
              go_loopg [8, 10] kj4 (fun kq v8 v10 w' => ∃ (x8_2 : List (S32)) (x10_2 : Int), v10 = .int .i64 x10_2 ∧ Aside0 (scrivenerref14_Set.l0 kq a1 x8_2 ((rd_T25 l0 t204).f1) x10_2 = some r) ∧ Aside0 (kq ≤ kj4) ∧ Aside0 (Kd.R k32 32 w' w.heap.size (fun _ => True) v8 x8_2) ∧ Aside0 (Below w.heap.size w w'))
              case atStart => exact ⟨(([] : List (S32))), (wrap64 (Int.tmod (IntKind.u64.wrap (a2 - ((rd_T25 l0 t204).f0))) (IntKind.u64.wrap ((((rd_T25 l0 t204).f1).length : Int))))), (by first | rfl | (simp; done) | (simp [*]; done)), H', ⟨Nat.le_refl _⟩, ⟨by first | exact Kd.R_nil _ _ _ _ _ | exact Kd.N_nil _ _ _ _ _ | exact Kd.V_nil _ _ _ _ _ | exact Kd.Q_nil _ _ _ _ _ | exact Kd.S_nil _ _ _ _ _⟩, ⟨by repeat (first | (with_reducible first | exact HB.out | apply below_alloc | apply pw_below_drewN | apply below_drew1) | exact HB.out)⟩⟩
              case round =>
                clear H'
                try clear c1
                try clear c2
                try clear p2
                try clear q2
                try clear hx2
                try clear c3
                try clear c5
                try clear c6
                try clear c6b0
                try clear p6
                try clear c7
                try clear c7b0
                try clear c8
                try clear c8b0
                try clear c9
                try clear c9b0
                try clear c10
                try clear c11
                try clear c11b0
                try clear c12
                try clear c12b0
                try clear c13
                try clear c13b0
                try clear c13b1
                try clear hx205_0
                try clear hx205_1
                try clear hx206_0
                try clear hx206_1
                try clear hx207_0
                try clear hx207_1
                try clear p2
                try clear p205
                try clear p206
                try clear p207
                try clear q2
                try clear q205
                try clear q206
                try clear q207
                obtain ⟨x8_2, x10_2, rfl, HA, HK2, HO_8, HB⟩ := hrel
                cases gk with
                | zero => exact absurd HA.out (by simp [scrivenerref14_Set.l0])
                | succ k2 =>
                  have H := HA.out
                  clear HA
                  simp only [scrivenerref14_Set.l0] at H
                  by_cases c14 : (x8_2.length : Int) < a1
                  · rw [if_pos c14] at H
                    have c14b0 : decide ((x8_2.length : Int) < a1) = true := decide_eq_true c14
                    clear c14
                    by_cases c15 : 0 ≤ x10_2
                    · rw [if_pos c15] at H
                      have c15b0 : decide (0 ≤ x10_2) = true := decide_eq_true c15
                      clear c15
                      by_cases c16 : x10_2 < (((rd_T25 l0 t204).f1).length : Int)
                      · rw [if_pos c16] at H
                        have c16b0 : decide (x10_2 < (((rd_T25 l0 t204).f1).length : Int)) = true := decide_eq_true c16
                        clear c16
                        by_cases c17 : x8_2.length < 8796093022208
                        · rw [if_pos c17] at H
                          have LMc17 := Aside0.mk c17
                          clear c17
                          obtain ⟨y209, hy209⟩ : ∃ y_ : List (S32), y_ = (x8_2 ++ [(⟨(rd_T32 ((rd_T25 l0 t204).f1) x10_2).f0, (rd_T32 ((rd_T25 l0 t204).f1) x10_2).f1⟩ : S32)]) := ⟨_, rfl⟩
                          replace H : (if (wrap64 (x10_2 + 1)) = (((rd_T25 l0 t204).f1).length : Int) then (scrivenerref14_Set.l0 k2 a1 y209 ((rd_T25 l0 t204).f1) 0) else (scrivenerref14_Set.l0 k2 a1 y209 ((rd_T25 l0 t204).f1) (wrap64 (x10_2 + 1)))) = some r := by first | (rw [hy209]; with_reducible exact H) | (have H2_ := (Option.bind_some _ _).symm.trans H; rw [hy209]; with_reducible exact H2_) | (have H2_ := (Option.bind_some _ _).symm.trans H; with_reducible exact H2_) | with_reducible exact H | (rw [hy209]; exact H) | exact H
                          have Ny209 := Aside0.mk hy209
                          clear hy209
                          by_cases c18 : (wrap64 (x10_2 + 1)) = (((rd_T25 l0 t204).f1).length : Int)
                          · rw [if_pos c18] at H
                            have c18b0 : ((wrap64 (x10_2 + 1)) == (((rd_T25 l0 t204).f1).length : Int)) = true := beq_iff_eq.mpr c18
                            have c18b1 : ((wrap64 (x10_2 + 1)) != (((rd_T25 l0 t204).f1).length : Int)) = false := bne_eq_false_iff_eq.mpr c18
                            clear c18
                            have H' := Aside0.mk H
                            clear H
                            obtain ⟨Ao19, co19, eo19⟩ := Kd.R_slice HO_8.out
                            subst eo19
                            have p208 : 0 ≤ (x10_2 : Int) := of_decide_eq_true (by first | (with_reducible assumption) | assumption)
                            have q208 : x10_2 < (((rd_T25 l0 t204).f1).length : Int) := of_decide_eq_true (by first | (with_reducible assumption) | assumption)
                            obtain ⟨ad208, e208, hx208_0, hx208_1⟩ := at_T32 HR206_1.out x10_2 p208 q208
                            cases e208
                            replace hx208_0 := (HB.out.cell (World.block_lt_of_cell? w _ hx208_0)).trans hx208_0
                            replace hx208_1 := (HB.out.cell (World.block_lt_of_cell? w _ hx208_1)).trans hx208_1
                            replace p208 := eq_true p208
                            replace q208 := eq_true q208
                            go_wp2_with (first | ((with_reducible refine gate_builtin (b := .append) (xs := #[.tmp 51, .tmp 56]) rfl ?_); (try (refine gate_guard (by rfl) ?_; dsimp only)); at_builtin; refine Kd.R_append k32 (w0 := w) w.heap.size rfl (.tmp 51) (.tmp 56) 23 32 (.agg #[(.int .i64 0), (.int .u64 0)]) 16 rfl Try.underlying23 info32 rfl (by decide) (by omega) (.slice Ao19 x8_2.length co19) x8_2 (⟨(rd_T32 ((rd_T25 l0 t204).f1) x10_2).f0, (rd_T32 ((rd_T25 l0 t204).f1) x10_2).f1⟩ : S32) [.int .i64 ((rd_T32 ((rd_T25 l0 t204).f1) x10_2).f0), .int .u64 ((rd_T32 ((rd_T25 l0 t204).f1) x10_2).f1)] (fun _ => True) (fun _ => False) rfl rfl ?aP (fun _ hk => hk.elim) ?aF ?aO ?aB ?aS ?aL ?_; (case aP => exact k32_mkM _ _ _ (⟨(rd_T32 ((rd_T25 l0 t204).f1) x10_2).f0, (rd_T32 ((rd_T25 l0 t204).f1) x10_2).f1⟩ : S32)); (case aB => exact (by repeat (first | (with_reducible first | exact HB.out | apply below_alloc | apply pw_below_drewN | apply below_drew1) | exact HB.out))); (case aF => exact (fun _ _ => trivial)); (case aO => exact (by (with_reducible repeat (first | apply Kd.R_alloc | apply Kd.R_drewN | apply Kd.R_drew)); exact HO_8.out)); (case aS => exact (below_size (by repeat (first | (with_reducible first | exact HB.out | apply below_alloc | apply pw_below_drewN | apply below_drew1) | exact HB.out)))); (case aL => have := LMc17.out; omega); intro v210 w20 ho hb hg hat; rw [← Ny209.out] at ho; have n0_ := Aside0.mk (hb); have n1_ := Aside0.mk (ho); clear HB; clear HO_8; have HB := n0_; have HO211 := n1_; clear n0_ n1_; clear ho hb hg hat))
                            go_roundg k2
                            case measure => have := HJ4.out; have := HK2.out; omega
                            case rel => exact ⟨(y209), (0), (by first | rfl | (simp; done) | (simp [*]; done)), H', ⟨by have := HJ4.out; have := HK2.out; omega⟩, ⟨by (with_reducible repeat (first | apply Kd.R_alloc | apply Kd.R_drewN | apply Kd.R_drew)); exact HO211.out⟩, ⟨by repeat (first | (with_reducible first | exact HB.out | apply below_alloc | apply pw_below_drewN | apply below_drew1) | exact HB.out)⟩⟩
                          · rw [if_neg c18] at H
                            have c18b0 : ((wrap64 (x10_2 + 1)) == (((rd_T25 l0 t204).f1).length : Int)) = false := beq_eq_false_iff_ne.mpr c18
                            have c18b1 : ((wrap64 (x10_2 + 1)) != (((rd_T25 l0 t204).f1).length : Int)) = true := bne_iff_ne.mpr c18
                            have H' := Aside0.mk H
                            clear H
                            obtain ⟨Ao21, co21, eo21⟩ := Kd.R_slice HO_8.out
                            subst eo21
                            have p208 : 0 ≤ (x10_2 : Int) := of_decide_eq_true (by first | (with_reducible assumption) | assumption)
                            have q208 : x10_2 < (((rd_T25 l0 t204).f1).length : Int) := of_decide_eq_true (by first | (with_reducible assumption) | assumption)
                            obtain ⟨ad208, e208, hx208_0, hx208_1⟩ := at_T32 HR206_1.out x10_2 p208 q208
                            cases e208
                            replace hx208_0 := (HB.out.cell (World.block_lt_of_cell? w _ hx208_0)).trans hx208_0
                            replace hx208_1 := (HB.out.cell (World.block_lt_of_cell? w _ hx208_1)).trans hx208_1
                            replace p208 := eq_true p208
                            replace q208 := eq_true q208
                            go_wp2_with (first | ((with_reducible refine gate_builtin (b := .append) (xs := #[.tmp 51, .tmp 56]) rfl ?_); (try (refine gate_guard (by rfl) ?_; dsimp only)); at_builtin; refine Kd.R_append k32 (w0 := w) w.heap.size rfl (.tmp 51) (.tmp 56) 23 32 (.agg #[(.int .i64 0), (.int .u64 0)]) 16 rfl Try.underlying23 info32 rfl (by decide) (by omega) (.slice Ao21 x8_2.length co21) x8_2 (⟨(rd_T32 ((rd_T25 l0 t204).f1) x10_2).f0, (rd_T32 ((rd_T25 l0 t204).f1) x10_2).f1⟩ : S32) [.int .i64 ((rd_T32 ((rd_T25 l0 t204).f1) x10_2).f0), .int .u64 ((rd_T32 ((rd_T25 l0 t204).f1) x10_2).f1)] (fun _ => True) (fun _ => False) rfl rfl ?aP (fun _ hk => hk.elim) ?aF ?aO ?aB ?aS ?aL ?_; (case aP => exact k32_mkM _ _ _ (⟨(rd_T32 ((rd_T25 l0 t204).f1) x10_2).f0, (rd_T32 ((rd_T25 l0 t204).f1) x10_2).f1⟩ : S32)); (case aB => exact (by repeat (first | (with_reducible first | exact HB.out | apply below_alloc | apply pw_below_drewN | apply below_drew1) | exact HB.out))); (case aF => exact (fun _ _ => trivial)); (case aO => exact (by (with_reducible repeat (first | apply Kd.R_alloc | apply Kd.R_drewN | apply Kd.R_drew)); exact HO_8.out)); (case aS => exact (below_size (by repeat (first | (with_reducible first | exact HB.out | apply below_alloc | apply pw_below_drewN | apply below_drew1) | exact HB.out)))); (case aL => have := LMc17.out; omega); intro v210 w22 ho hb hg hat; rw [← Ny209.out] at ho; have n0_ := Aside0.mk (hb); have n1_ := Aside0.mk (ho); clear HB; clear HO_8; have HB := n0_; have HO211 := n1_; clear n0_ n1_; clear ho hb hg hat))
                            go_roundg k2
                            case measure => have := HJ4.out; have := HK2.out; omega
                            case rel => exact ⟨(y209), (wrap64 (x10_2 + 1)), (by first | rfl | (simp; done) | (simp [*]; done)), H', ⟨by have := HJ4.out; have := HK2.out; omega⟩, ⟨by (with_reducible repeat (first | apply Kd.R_alloc | apply Kd.R_drewN | apply Kd.R_drew)); exact HO211.out⟩, ⟨by repeat (first | (with_reducible first | exact HB.out | apply below_alloc | apply pw_below_drewN | apply below_drew1) | exact HB.out)⟩⟩
                        · rw [if_neg c17] at H
                          exact absurd H (by simp)
                      · rw [if_neg c16] at H
                        exact absurd H (by simp)
                    · rw [if_neg c15] at H
                      exact absurd H (by simp)
                  · rw [if_neg c14] at H
                    have c14b0 : decide ((x8_2.length : Int) < a1) = false := decide_eq_false c14
                    clear c14
                    obtain rfl := Option.some.inj H
                    obtain ⟨Ao23, co23, eo23⟩ := Kd.R_slice HO_8.out
                    subst eo23
                    go_wp2
                    go_ret
                    exact ⟨_, by first | rfl | (simp [errW_none, errW_some] <;> rfl) | (simp [*, errW_none, errW_some] <;> rfl), by (with_reducible repeat (first | apply Kd.R_alloc | apply Kd.R_drewN | apply Kd.R_drew)); exact HO_8.out, by repeat (first | (with_reducible first | exact HB.out | apply below_alloc | apply pw_below_drewN | apply below_drew1) | exact HB.out)⟩
          · rw [if_neg c12] at H
            exact absurd H (by simp)
        · rw [if_neg c11] at H
          exact absurd H (by simp)
end Go.Proofs.Ytipjnfljkknmgaa.Q
namespace Go.Proofs.Ytipjnfljkknmgaa.Q
open Go.RowKit Go.Proofs.YtipjnfljkknmgaaW.PrintWords Go.Proofs.YtipjnfljkknmgaaW.PrintLast Go.Proofs.YtipjnfljkknmgaaW.PrintMore
attribute [local go_sem] max2_int min2_int max_two min_two max_three min_three max_four min_four   -- for this text's walks alone
set_option linter.unusedVariables false
set_option linter.unusedSimpArgs false
def stripe_Acked.f (k : Nat) (l0 : List (S32)) (a1 : Int) (l2 : List (S32)) : Option (Bool) := if a1 ≥ 1 then ((api_Place_38.f k l0 l2).bind fun t200 => (some (decide (t200 ≥ a1)))) else (some false)
set_option maxHeartbeats 8000000 in
set_option maxRecDepth 100000 in
theorem stripe_Acked.calls (k : Nat) (A0 : Option Addr) (c0 : Nat) (l0 : List (S32)) (a1 : Int) (A2 : Option Addr) (c2 : Nat) (l2 : List (S32)) (r : Bool) (w : World) (hr0 : Kd.C k32 w A0 l0.length l0) (hc0 : l0.length ≤ c0) (hr2 : Kd.C k32 w A2 l2.length l2) (hc2 : l2.length ≤ c2) (h : stripe_Acked.f k l0 a1 l2 = some r) :
    Calls Try.prog 17 #[.slice A0 l0.length c0, .int .i64 a1, .slice A2 l2.length c2] w fun e w' => e = .returned (.bool r) ∧ Below w.heap.size w w' := by
  have HR0 := Aside0.mk hr0
  have HC0 := Aside0.mk hc0
  clear hr0 hc0
  have HR2 := Aside0.mk hr2
  have HC2 := Aside0.mk hc2
  clear hr2 hc2
  have HB := Aside0.mk (Below.refl w.heap.size w)
  have H : (if a1 ≥ 1 then ((api_Place_38.f k l0 l2).bind fun t200 => (some (decide (t200 ≥ a1)))) else (some false)) = some r := h
  clear h
  by_cases c4 : a1 ≥ 1
  · rw [if_pos c4] at H
    have c4b0 : decide (1 ≤ a1) = true := decide_eq_true c4
    clear c4
    replace H := Option.bind_eq_some_iff.mp H
    obtain ⟨t200, A50, H⟩ := H
    replace H : (some (decide (t200 ≥ a1))) = some r := H
    have A5 := Aside0.mk A50
    clear A50
    obtain rfl := Option.some.inj H
    go_enter Try.func17, Try.ntmps17
    go_wp2_with (first | (go_at_call 38; (with_reducible refine (api_Place_38.calls k _ _ l0 _ _ l2 t200 _ ?side1 ?side2 ?side3 ?side4 A5.out).mono ?_); (case side1 => repeat (first | exact HR0.out | (with_reducible refine Kd.C_alloc ?_ _) | (with_reducible refine Kd.C_drewN ?_ _) | (with_reducible refine Kd.C_drew ?_))); (case side2 => exact HC0.out); (case side3 => repeat (first | exact HR2.out | (with_reducible refine Kd.C_alloc ?_ _) | (with_reducible refine Kd.C_drewN ?_ _) | (with_reducible refine Kd.C_drew ?_))); (case side4 => exact HC2.out); rintro e w6 ⟨rfl, hb⟩; have n0_ := Aside0.mk (below_step (by repeat (first | (with_reducible first | exact HB.out | apply below_alloc | apply pw_below_drewN | apply below_drew1) | exact HB.out)) hb); clear HB; have HB := n0_; clear n0_; (try clear hb); (try clear hb2); (try clear hk); (try clear hi)))
    go_ret
    exact ⟨by first | rfl | (simp [errW_none, errW_some] <;> rfl) | (simp [*, errW_none, errW_some] <;> rfl), by repeat (first | (with_reducible first | exact HB.out | apply below_alloc | apply pw_below_drewN | apply below_drew1) | exact HB.out)⟩
  · rw [if_neg c4] at H
    have c4b0 : decide (1 ≤ a1) = false := decide_eq_false c4
    clear c4
    obtain rfl := Option.some.inj H
    go_enter Try.func17, Try.ntmps17
    go_wp2
    go_ret
    exact ⟨by first | rfl | (simp [errW_none, errW_some] <;> rfl) | (simp [*, errW_none, errW_some] <;> rfl), by repeat (first | (with_reducible first | exact HB.out | apply below_alloc | apply pw_below_drewN | apply below_drew1) | exact HB.out)⟩
end Go.Proofs.Ytipjnfljkknmgaa.Q
namespace Go.Proofs.Ytipjnfljkknmgaa.Q
open Go.RowKit Go.Proofs.YtipjnfljkknmgaaW.PrintWords Go.Proofs.YtipjnfljkknmgaaW.PrintLast Go.Proofs.YtipjnfljkknmgaaW.PrintMore
set_option linter.unusedVariables false
set_option linter.unusedSimpArgs false
theorem neS (a b : S32) : (!(a.f0 == b.f0) || (!(a.f1 == b.f1))) = !decide (a = b) := by
  rw [Bool.eq_iff_iff]
  simp only [Bool.or_eq_true, Bool.not_eq_true', beq_eq_false_iff_ne, decide_eq_false_iff_not]
  constructor
  · rintro (h | h) e <;> exact h (by rw [e])
  · intro h
    by_cases h0 : a.f0 = b.f0
    · exact .inr fun h1 => h (S_ext h0 h1)
    · exact .inl h0
theorem eqS' (a b : S32) : (a.f0 == b.f0 && (a.f1 == b.f1)) = decide (a = b) := by
  rw [Bool.eq_iff_iff]
  simp only [Bool.and_eq_true, beq_iff_eq, decide_eq_true_eq]
  exact ⟨fun h => S_ext h.1 h.2, fun h => by subst h; exact ⟨rfl, rfl⟩⟩
theorem mkS (a : S32) : (⟨a.f0, a.f1⟩ : S32) = a := by cases a; rfl
set_option linter.unusedSectionVars false
section
variable (set frm : List S32) (hs : set.length ≤ 4611686018427387903) (hf : frm.length ≤ 4611686018427387903)
include hs hf
theorem among_l2 (i n : Nat) (hi : i < set.length) (hn : n ≤ i) (first : Bool) {r : Int} (d : Nat) : ∀ (j : Nat) (acc : Bool), j + d = frm.length →
    Ev (fun k => scrivenerref14_Among.l0 k set frm ((if first = true ∧ (acc = true ∨ set[i] ∈ frm.drop j) then n + 1 else n : Nat) : Int) ((i + 1 : Nat) : Int)) r →
    Ev (fun k => scrivenerref14_Among.l2 k set frm (n : Int) (i : Int) first acc (j : Int)) r := by
  induction d with
  | zero =>
    intro j acc hj h
    rw [List.drop_eq_nil_of_le (by omega)] at h
    simp only [List.not_mem_nil, or_false] at h
    refine Ev.step (fun k => ?_) h
    simp only [scrivenerref14_Among.l2]
    rw [if_neg (by omega), w1 i (by omega), w1 n (by omega)]
    cases first <;> cases acc <;> simp
  | succ d ih =>
    intro j acc hj h
    have hlt : j < frm.length := by omega
    refine Ev.step (f := fun k => scrivenerref14_Among.l2 k set frm (n : Int) (i : Int) first (acc || decide (frm[j] = set[i])) ((j + 1 : Nat) : Int)) (fun k => ?_) (ih (j + 1) _ (by omega) ?_)
    · simp only [scrivenerref14_Among.l2]
      rw [if_pos (by omega), w1 j (by omega)]
      cases acc with
      | true => simp
      | false =>
        rw [if_neg (by simp), if_pos (by omega), if_pos (by omega), if_pos (by omega), rdT_get frm j hlt, rdT_get set i hi, eqS']
        simp
    · rw [List.drop_eq_getElem_cons hlt] at h
      have e : (first = true ∧ ((acc || decide (frm[j] = set[i])) = true ∨ set[i] ∈ frm.drop (j + 1))) = (first = true ∧ (acc = true ∨ set[i] ∈ frm[j] :: frm.drop (j + 1))) := by
        apply propext
        simp only [Bool.or_eq_true, decide_eq_true_eq, List.mem_cons]
        constructor
        · rintro ⟨h1, (h2 | h2) | h2⟩
          · exact ⟨h1, .inl h2⟩
          · exact ⟨h1, .inr (.inl h2.symm)⟩
          · exact ⟨h1, .inr (.inr h2)⟩
        · rintro ⟨h1, h2 | h2 | h2⟩
          · exact ⟨h1, .inl (.inl h2)⟩
          · exact ⟨h1, .inl (.inr h2.symm)⟩
          · exact ⟨h1, .inr h2⟩
      simp only [e]
      exact h
theorem among_l1 (i n : Nat) (hi : i < set.length) {r : Int} (d : Nat) : ∀ (j : Nat) (first : Bool), j + d = i →
    Ev (fun k => scrivenerref14_Among.l2 k set frm (n : Int) (i : Int) (first && decide (set[i] ∉ (set.take i).drop j)) false 0) r →
    Ev (fun k => scrivenerref14_Among.l1 k set frm (n : Int) (i : Int) first (j : Int)) r := by
  induction d with
  | zero =>
    intro j first hj h
    rw [List.drop_eq_nil_of_le (by rw [List.length_take]; omega)] at h
    refine Ev.step (fun k => ?_) h
    simp only [scrivenerref14_Among.l1]
    rw [if_neg (by omega)]
    simp
  | succ d ih =>
    intro j first hj h
    have hlt : j < set.length := by omega
    refine Ev.step (f := fun k => scrivenerref14_Among.l1 k set frm (n : Int) (i : Int) (first && !decide (set[j] = set[i])) ((j + 1 : Nat) : Int)) (fun k => ?_) (ih (j + 1) _ (by omega) ?_)
    · simp only [scrivenerref14_Among.l1]
      rw [if_pos (by omega), w1 j (by omega)]
      cases first with
      | true =>
        rw [if_pos rfl, if_pos (by omega), if_pos (by omega), if_pos (by omega), if_pos (by omega), rdT_get set j hlt, rdT_get set i hi, neS]
        simp
      | false => rw [if_neg (by simp)]; simp
    · have hd : (set.take i).drop j = set[j] :: (set.take i).drop (j + 1) := by
        rw [List.drop_eq_getElem_cons (by rw [List.length_take]; omega)]
        simp
      rw [hd] at h
      have e : (first && !decide (set[j] = set[i]) && decide (set[i] ∉ (set.take i).drop (j + 1))) = (first && decide (set[i] ∉ set[j] :: (set.take i).drop (j + 1))) := by
        rw [Bool.and_assoc]
        congr 1
        rw [Bool.eq_iff_iff]
        simp only [Bool.and_eq_true, Bool.not_eq_true', decide_eq_false_iff_not, decide_eq_true_eq, List.mem_cons, not_or]
        exact ⟨fun h => ⟨fun e => h.1 e.symm, h.2⟩, fun h => ⟨fun e => h.1 e.symm, h.2⟩⟩
      rw [e]
      exact h
theorem among_l0 {d : Nat} : ∀ (i n : Nat), i + d = set.length → n ≤ i →
    Ev (fun k => scrivenerref14_Among.l0 k set frm (n : Int) (i : Int)) ((n + cntGo frm (set.take i) (set.drop i) : Nat) : Int) := by
  induction d with
  | zero =>
    intro i n hi hn
    rw [List.drop_eq_nil_of_le (by omega), cntGo]
    refine Ev.step (fun k => ?_) (Ev.now _)
    simp only [scrivenerref14_Among.l0]
    rw [if_neg (by omega)]
    simp
  | succ d ih =>
    intro i n hi hn
    have hlt : i < set.length := by omega
    refine Ev.step (f := fun k => scrivenerref14_Among.l1 k set frm (n : Int) (i : Int) true ((0 : Nat) : Int)) (fun k => ?_) ?_
    · simp only [scrivenerref14_Among.l0]
      rw [if_pos (by omega)]
      rfl
    · refine among_l1 set frm hs hf i n hlt i 0 true (by omega) ?_
      refine among_l2 set frm hs hf i n hlt hn _ frm.length 0 false (by omega) ?_
      have := ih (i + 1) (if set[i] ∈ frm ∧ set[i] ∉ set.take i then n + 1 else n) (by omega) (by split <;> omega)
      have htk : set.take (i + 1) = set.take i ++ [set[i]] := by rw [List.take_succ_eq_append_getElem hlt]
      rw [htk] at this
      rw [List.drop_eq_getElem_cons hlt, cntGo]
      have e : ((true && decide (set[i] ∉ (set.take i).drop 0)) = true ∧ (false = true ∨ set[i] ∈ frm.drop 0)) = (set[i] ∈ frm ∧ set[i] ∉ set.take i) := by
        apply propext
        simp only [Bool.true_and, decide_eq_true_eq, List.drop_zero, Bool.false_eq_true, false_or]
        exact ⟨fun h => ⟨h.2, h.1⟩, fun h => ⟨h.2, h.1⟩⟩
      simp only [e]
      rw [show n + ((if set[i] ∈ frm ∧ set[i] ∉ set.take i then 1 else 0) + cntGo frm (set.take i ++ [set[i]]) (set.drop (i + 1))) = (if set[i] ∈ frm ∧ set[i] ∉ set.take i then n + 1 else n) + cntGo frm (set.take i ++ [set[i]]) (set.drop (i + 1)) from by split <;> omega]
      exact this
theorem among_ev : Ev (fun k => scrivenerref14_Among.f k set frm) ((cnt set frm : Nat) : Int) := by
  have := among_l0 set frm hs hf (d := set.length) 0 0 (by omega) (by omega)
  refine Ev.congr (fun k => ?_) (show Ev _ _ from by simpa [cnt] using this)
  rfl
end
theorem lastGo_one (n : Int) (x : S25) : lastGo n [x] (z25, false) = if x.f0 ≤ n then (x, true) else (z25, false) := rfl
/-- The write set of an entry by one fragment. -/
def setL (f : S25) (w n : Int) : List S32 := if f.f0 ≤ n ∧ 1 ≤ w ∧ w ≤ f.f1.length then fromL f.f1 ((n - f.f0).toNat % f.f1.length) w.toNat else []
theorem u64_len (n : Nat) (h : n ≤ 4611686018427387903) : IntKind.u64.wrap (n : Int) = n := by
  have : (n : Int) % 18446744073709551616 = n := Int.emod_eq_of_lt (by omega) (by omega)
  exact this
theorem pset_ev (f : S25) (w n : Int) (hn : 0 ≤ n ∧ n < 18446744073709551616) (hf : 0 ≤ f.f0 ∧ f.f0 < 18446744073709551616) (hl : f.f1.length ≤ 4398046511104) : Ev (fun k => stripe_Set.f k [f] w n) (setL f w n) := by
  unfold stripe_Set.f stripe_Frag.f setL
  rw [lastGo_one]
  by_cases h0 : f.f0 ≤ n
  · simp only [if_pos h0]
    rw [if_pos (by omega)]
    simp only [Option.bind_some, if_true]
    by_cases h1 : w < 1
    · simp only [if_pos h1]
      rw [if_neg (by omega)]
      exact Ev.now _
    · simp only [if_neg h1]
      by_cases h2 : w > (f.f1.length : Int)
      · simp only [if_pos h2]
        rw [if_neg (by omega)]
        exact Ev.now _
      · simp only [if_neg h2]
        have hpos : 0 < f.f1.length := by omega
        have hu : IntKind.u64.wrap (n - f.f0) = n - f.f0 := by
          have : (n - f.f0) % 18446744073709551616 = n - f.f0 := Int.emod_eq_of_lt (by omega) (by omega)
          exact this
        rw [u64_len _ (by omega), hu]
        have hm : Int.tmod (n - f.f0) (f.f1.length : Int) = (((n - f.f0).toNat % f.f1.length : Nat) : Int) := by
          rw [Int.tmod_eq_emod_of_nonneg (by omega)]
          obtain ⟨dn, hdn⟩ : ∃ dn : Nat, n - f.f0 = dn := ⟨(n - f.f0).toNat, by omega⟩
          rw [hdn, Int.toNat_natCast]
          rfl
        have hlt : (n - f.f0).toNat % f.f1.length < f.f1.length := Nat.mod_lt _ hpos
        rw [hm, show wrap64 (((n - f.f0).toNat % f.f1.length : Nat) : Int) = (((n - f.f0).toNat % f.f1.length : Nat) : Int) from by unfold wrap64; omega]
        simp only [if_neg (show ¬ (f.f1.length : Int) = 0 from by omega)]
        rw [if_pos ⟨h0, by omega, by omega⟩]
        obtain ⟨wn, rfl⟩ : ∃ m : Nat, w = m := ⟨w.toNat, by omega⟩
        rw [Int.toNat_natCast]
        refine Ev.bind ⟨wn + 1, fun k hk => from_ev f.f1 _ wn hpos (by omega) (by omega) (by omega) k (by omega)⟩ ?_
        exact Ev.now _
  · simp only [if_neg h0]
    rw [if_pos (by simp [z25]), if_neg (by omega)]
    simp only [Option.bind_some, if_false, Bool.false_eq_true]
    exact Ev.now _
end Go.Proofs.Ytipjnfljkknmgaa.Q
namespace Go.Proofs.Ytipjnfljkknmgaa.Q
open Go.RowKit Go.Proofs.YtipjnfljkknmgaaW.PrintWords Go.Proofs.YtipjnfljkknmgaaW.PrintLast Go.Proofs.YtipjnfljkknmgaaW.PrintMore
attribute [local go_sem] max2_int min2_int max_two min_two max_three min_three max_four min_four   -- for this text's walks alone
set_option linter.unusedVariables false
set_option linter.unusedSimpArgs false
mutual
def scrivenerref14_Covered.j0 : Nat → Int → Int → List (S32) → Bool → Int → List (S32) → Option (Bool)
  | 0, _, _, _, _, _, _ => none
  | k + 1, x1, x2, x3, x18, x213000, x213001 => if x18 = true then (some false) else (scrivenerref14_Covered.l0 k x1 x2 x3 1 1 x213001)
def scrivenerref14_Covered.l0 : Nat → Int → Int → List (S32) → Int → Int → List (S32) → Option (Bool)
  | 0, _, _, _, _, _, _ => none
  | k + 1, x1, x2, x3, x9, x213000, x213001 => if x9 ≤ (x213001.length : Int) then ((scrivenerref14_Set.f k (([(⟨x213000, x213001⟩ : S25)] : List (S25))) x1 (IntKind.u64.wrap (x9))).bind fun t216 => ((scrivenerref14_Missing.f k t216 x1 x2 x3).bind fun t219 => (if t219 = true then (scrivenerref14_Covered.l0 k x1 x2 x3 (wrap64 (x9 + 1)) x213000 x213001) else (some false)))) else (some true)
end
def scrivenerref14_Covered.f (k : Nat) (a0_0 : Int) (l0_1 : List (S32)) (a1 : Int) (a2 : Int) (l3 : List (S32)) : Option (Bool) := if a1 < 1 then (scrivenerref14_Covered.j0 k a1 a2 l3 true a0_0 l0_1) else (scrivenerref14_Covered.j0 k a1 a2 l3 (decide (a1 > (l0_1.length : Int))) a0_0 l0_1)
set_option maxHeartbeats 8000000 in
set_option maxRecDepth 100000 in
theorem scrivenerref14_Covered.calls (k : Nat) (a0_0 : Int) (P0_1_ : Nat → Prop) (A0_1 : Option Addr) (c0_1 : Nat) (l0_1 : List (S32)) (a1 : Int) (a2 : Int) (A3 : Option Addr) (c3 : Nat) (l3 : List (S32)) (r : Bool) (w : World) (hs0_1 : Kd.V k32 32 w w.heap.size (fun k_ => P0_1_ k_) (.slice A0_1 l0_1.length c0_1) l0_1) (hr3 : Kd.C k32 w A3 l3.length l3) (hc3 : l3.length ≤ c3) (h : scrivenerref14_Covered.f k a0_0 l0_1 a1 a2 l3 = some r) :
    Calls Try.prog 21 #[.agg #[.int .u64 a0_0, .slice A0_1 l0_1.length c0_1], .int .i64 a1, .int .i64 a2, .slice A3 l3.length c3] w fun e w' => e = .returned (.bool r) ∧ Below w.heap.size w w' := by
  have hu25 := Try.underlying25
  have HO0_1 := Aside0.mk (show Kd.V k32 32 w w.heap.size (fun k_ => (P0_1_ k_ ∨ w.heap.size ≤ k_)) (.slice A0_1 l0_1.length c0_1) l0_1 from Kd.V_mono hs0_1 (fun k_ hk => .inl hk))
  have HR3 := Aside0.mk hr3
  have HC3 := Aside0.mk hc3
  clear hr3 hc3
  have HB := Aside0.mk (Below.refl w.heap.size w)
  have H : (if a1 < 1 then (scrivenerref14_Covered.j0 k a1 a2 l3 true a0_0 l0_1) else (scrivenerref14_Covered.j0 k a1 a2 l3 (decide (a1 > (l0_1.length : Int))) a0_0 l0_1)) = some r := h
  clear h
  have HC5 := Aside0.mk H
  clear H
  go_enter Try.func21, Try.ntmps21
  go_upto_region 1 with (first | ((with_reducible refine gate_dst (N := 4) rfl ?_); (try (refine gate_guard (by rfl) ?_; dsimp only)); refine box_event ?hg (N := 4) ?hd (cs := #[.int .u64 a0_0, .slice A0_1 l0_1.length c0_1]) (t := 25) ?hr ?_; (case hd => rfl); (case hg => rfl); (case hr => first | (go_simp; done) | (go_simp; rfl)); intro gb212 hg w6 hbox hb; have n0_ := Aside0.mk (Kd.V_below (Kd.V_elderB (by (with_reducible repeat (first | apply Kd.V_alloc | apply Kd.V_drewN | apply Kd.V_drew)); exact HO0_1.out) gb212 (Nat.le_of_eq hg.symm)) hb); have n1_ := Aside0.mk (below_step (by repeat (first | (with_reducible first | exact HB.out | apply below_alloc | apply pw_below_drewN | apply below_drew1) | exact HB.out)) hb); have n2_ := Aside0.mk (hbox); have n3_ := Aside0.mk ((by rw [hg]; exact (below_size (by repeat (first | (with_reducible first | exact HB.out | apply below_alloc | apply pw_below_drewN | apply below_drew1) | exact HB.out))) : w.heap.size ≤ gb212)); have n4_ := Aside0.mk ((by rw [hg]; exact (below_size (by repeat (first | (with_reducible first | exact HB.out | apply below_alloc | apply pw_below_drewN | apply below_drew1) | exact HB.out))) : w.heap.size ≤ gb212)); clear HO0_1; clear HB; have HO0_1 := n0_; have HB := n1_; have BK212 := n2_; have GW212 := n3_; have GE212 := n4_; clear n0_ n1_ n2_ n3_ n4_; clear hb hbox hg))
  (try simp only [Act.put, List.setIfInBounds_toArray, List.set_cons_zero, List.set_cons_succ])
  go_cut [18] (fun v18 wc => ∃ (kq : Nat) (x18_4 : Bool), v18 = .bool x18_4 ∧ Aside0 (scrivenerref14_Covered.j0 kq a1 a2 l3 x18_4 a0_0 l0_1 = some r) ∧ Aside0 (kq ≤ k) ∧ Aside0 (Kd.V k32 32 wc w.heap.size (fun k_ => (P0_1_ k_ ∨ w.heap.size ≤ k_) ∧ k_ ≠ gb212) (.slice A0_1 l0_1.length c0_1) l0_1) ∧ Aside0 (wc.heap[gb212]? = some (.cells #[.int .u64 a0_0, (.slice A0_1 l0_1.length c0_1)] 25 (0, 0))) ∧ Aside0 (Below w.heap.size w wc))
  case first =>
    have H := HC5.out
    clear HC5
    by_cases c7 : a1 < 1
    · rw [if_pos c7] at H
      have c7b0 : decide (a1 < 1) = true := decide_eq_true c7
      clear c7
      (first | rw [c7b0] | (simp only [i64_w, i32_w]; rw [c7b0]) | skip)
      have H' := Aside0.mk H
      clear H
      go_wp2
      go_meet
      case rel => exact ⟨_, (true), (by first | rfl | (simp; done) | (simp [*]; done)), H', ⟨by first | omega | exact Nat.le_refl _⟩, ⟨by (with_reducible repeat (first | apply Kd.V_alloc | apply Kd.V_drewN | apply Kd.V_drew)); exact HO0_1.out⟩, ⟨by (with_reducible repeat (first | refine blk_drewN ?_ _ | refine blk_drew ?_ | refine blk_alloc ?_ _)); exact BK212.out⟩, ⟨by repeat (first | (with_reducible first | exact HB.out | apply below_alloc | apply pw_below_drewN | apply below_drew1 | refine below_set ?_ GE212.out) | exact HB.out)⟩⟩
    · rw [if_neg c7] at H
      have c7b0 : decide (a1 < 1) = false := decide_eq_false c7
      clear c7
      (first | rw [c7b0] | (simp only [i64_w, i32_w]; rw [c7b0]) | skip)
      have H' := Aside0.mk H
      clear H
      have hcz8_0 : w6.cell? ⟨gb212, 0, none⟩ = some (.int .u64 a0_0) := (blk_cell BK212.out 0).trans rfl
      have hcz8_1 : w6.cell? ⟨gb212, 1, none⟩ = some (.slice A0_1 l0_1.length c0_1) := (blk_cell BK212.out 1).trans rfl
      have hfz8_0 := blk_frozen BK212.out 0
      have hfz8_1 := blk_frozen BK212.out 1
      go_wp2
      go_meet
      case rel => exact ⟨_, (decide (a1 > (l0_1.length : Int))), (by first | rfl | (simp; done) | (simp [*]; done)), H', ⟨by first | omega | exact Nat.le_refl _⟩, ⟨by (with_reducible repeat (first | apply Kd.V_alloc | apply Kd.V_drewN | apply Kd.V_drew)); exact HO0_1.out⟩, ⟨by (with_reducible repeat (first | refine blk_drewN ?_ _ | refine blk_drew ?_ | refine blk_alloc ?_ _)); exact BK212.out⟩, ⟨by repeat (first | (with_reducible first | exact HB.out | apply below_alloc | apply pw_below_drewN | apply below_drew1 | refine below_set ?_ GE212.out) | exact HB.out)⟩⟩
  case rest =>
    clear HC5
    try clear c2
    try clear p2
    try clear c3
    try clear c7
    try clear c7b0
    try clear hcz8_0
    try clear hcz8_1
    try clear hfz8_0
    try clear hfz8_1
    obtain ⟨kq, x18_4, rfl, HA, HJ4, HO_213001, BK212, HB⟩ := hcut
    cases kq with
    | zero => exact absurd HA.out (by simp [scrivenerref14_Covered.j0])
    | succ kj4 =>
      have H := HA.out
      clear HA
      simp only [scrivenerref14_Covered.j0] at H
      by_cases c9 : x18_4 = true
      · subst c9
        have H1 : (some false) = some r := by rw [if_pos rfl] at H; exact H
        clear H
        have H := H1
        clear H1
        obtain rfl := Option.some.inj H
        go_wp2
        go_ret
        exact ⟨by first | rfl | (simp [errW_none, errW_some] <;> rfl) | (simp [*, errW_none, errW_some] <;> rfl), by repeat (first | (with_reducible first | exact HB.out | apply below_alloc | apply pw_below_drewN | apply below_drew1 | refine below_set ?_ GE212.out) | exact HB.out)⟩
      · replace c9 := Bool.eq_false_iff.mpr c9
        subst c9
        have H1 : (scrivenerref14_Covered.l0 kj4 a1 a2 l3 1 1 l0_1) = some r := by rw [if_neg (show ¬ (false = true) by decide)] at H; exact H
        clear H
        have H := H1
        clear H1
        have H' := Aside0.mk H
        clear H
        have hcz10_0 : wc.cell? ⟨gb212, 0, none⟩ = some (.int .u64 a0_0) := (blk_cell BK212.out 0).trans rfl
        have hcz10_1 : wc.cell? ⟨gb212, 1, none⟩ = some (.slice A0_1 l0_1.length c0_1) := (blk_cell BK212.out 1).trans rfl
        have hfz10_0 := blk_frozen BK212.out 0
        have hfz10_1 := blk_frozen BK212.out 1
        go_wp2
        go_loopg [9] kj4 (fun kq v9 w' => ∃ (x9_2 : Int), v9 = .int .i64 x9_2 ∧ Aside0 (scrivenerref14_Covered.l0 kq a1 a2 l3 x9_2 1 l0_1 = some r) ∧ Aside0 (kq ≤ kj4) ∧ Aside0 (Kd.V k32 32 w' w.heap.size (fun k_ => (P0_1_ k_ ∨ w.heap.size ≤ k_) ∧ k_ ≠ gb212) (.slice A0_1 l0_1.length c0_1) l0_1) ∧ Aside0 (w'.heap[gb212]? = some (.cells #[.int .u64 1, (.slice A0_1 l0_1.length c0_1)] 25 (0, 0))) ∧ Aside0 (Below w.heap.size w w'))
        case atStart => exact ⟨(1), (by first | rfl | (simp; done) | (simp [*]; done)), H', ⟨Nat.le_refl _⟩, ⟨by (with_reducible repeat (first | apply Kd.V_alloc | apply Kd.V_drewN | apply Kd.V_drew)); exact Kd.V_mono (Kd.V_far (p := ⟨gb212, 0, none⟩) (Kd.V_mono HO_213001.out (fun k_ hk => (⟨hk, hk.2⟩ : _ ∧ k_ ≠ gb212))) (fun _ hk => hk.2) (.int .u64 1)) (fun _ hk => ⟨hk.1.1, hk.1.2⟩)⟩, ⟨by (with_reducible repeat (first | refine blk_drewN ?_ _ | refine blk_drew ?_ | refine blk_alloc ?_ _)); refine blk_put (cs := #[.int .u64 a0_0, .slice A0_1 l0_1.length c0_1]) ?_ 0 _ rfl; (with_reducible repeat (first | refine blk_drewN ?_ _ | refine blk_drew ?_ | refine blk_alloc ?_ _)); exact BK212.out⟩, ⟨by repeat (first | (with_reducible first | exact HB.out | apply below_alloc | apply pw_below_drewN | apply below_drew1 | refine below_set ?_ GE212.out) | exact HB.out)⟩⟩
        case round =>
          clear H'
          try clear c2
          try clear p2
          try clear c3
          try clear c7
          try clear c7b0
          try clear c9
          try clear hcz10_0
          try clear hcz10_1
          try clear hcz8_0
          try clear hcz8_1
          try clear hfz10_0
          try clear hfz10_1
          try clear hfz8_0
          try clear hfz8_1
          try clear p2
          obtain ⟨x9_2, rfl, HA, HK2, HO_213001, BK212, HB⟩ := hrel
          cases gk with
          | zero => exact absurd HA.out (by simp [scrivenerref14_Covered.l0])
          | succ k2 =>
            have H := HA.out
            clear HA
            simp only [scrivenerref14_Covered.l0] at H
            by_cases c11 : x9_2 ≤ (l0_1.length : Int)
            · rw [if_pos c11] at H
              have c11b0 : decide (x9_2 ≤ (l0_1.length : Int)) = true := decide_eq_true c11
              clear c11
              obtain ⟨y213, hy213⟩ : ∃ y_ : List (S25), y_ = (([(⟨1, l0_1⟩ : S25)] : List (S25))) := ⟨_, rfl⟩
              replace H : ((scrivenerref14_Set.f k2 y213 a1 (IntKind.u64.wrap (x9_2))).bind fun t216 => ((scrivenerref14_Missing.f k2 t216 a1 a2 l3).bind fun t219 => (if t219 = true then (scrivenerref14_Covered.l0 k2 a1 a2 l3 (wrap64 (x9_2 + 1)) 1 l0_1) else (some false)))) = some r := by first | (rw [hy213]; with_reducible exact H) | (have H2_ := (Option.bind_some _ _).symm.trans H; rw [hy213]; with_reducible exact H2_) | (have H2_ := (Option.bind_some _ _).symm.trans H; with_reducible exact H2_) | with_reducible exact H | (rw [hy213]; exact H) | exact H
              have Ny213 := Aside0.mk hy213
              clear hy213
              replace H := Option.bind_eq_some_iff.mp H
              obtain ⟨t216, A120, H⟩ := H
              replace H : ((scrivenerref14_Missing.f k2 t216 a1 a2 l3).bind fun t219 => (if t219 = true then (scrivenerref14_Covered.l0 k2 a1 a2 l3 (wrap64 (x9_2 + 1)) 1 l0_1) else (some false))) = some r := H
              have A12 := Aside0.mk A120
              clear A120
              replace H := Option.bind_eq_some_iff.mp H
              obtain ⟨t219, A130, H⟩ := H
              replace H : (if t219 = true then (scrivenerref14_Covered.l0 k2 a1 a2 l3 (wrap64 (x9_2 + 1)) 1 l0_1) else (some false)) = some r := H
              have A13 := Aside0.mk A130
              clear A130
              by_cases c14 : t219 = true
              · subst c14
                have H1 : (scrivenerref14_Covered.l0 k2 a1 a2 l3 (wrap64 (x9_2 + 1)) 1 l0_1) = some r := by rw [if_pos rfl] at H; exact H
                clear H
                have H := H1
                clear H1
                have H' := Aside0.mk H
                clear H
                have hcz15_0 : wr.cell? ⟨gb212, 0, none⟩ = some (.int .u64 1) := (blk_cell BK212.out 0).trans rfl
                have hcz15_1 : wr.cell? ⟨gb212, 1, none⟩ = some (.slice A0_1 l0_1.length c0_1) := (blk_cell BK212.out 1).trans rfl
                have hfz15_0 := blk_frozen BK212.out 0
                have hfz15_1 := blk_frozen BK212.out 1
                go_wp2_with (first | ((with_reducible refine gate_dst (N := 28) rfl ?_); (try (refine gate_guard (by rfl) ?_; dsimp only)); refine Kd.N_lit k25 _ 25 ?hg (N' := 28) ?hd (xs := ([(⟨1, l0_1⟩ : S25)] : List (S25))) (inner := [.int .u64 1, .slice A0_1 l0_1.length c0_1]) (ok := (fun k_ => (P0_1_ k_ ∨ w.heap.size ≤ k_) ∧ k_ ≠ gb212)) (okp := (fun k_ => (P0_1_ k_ ∨ w.heap.size ≤ k_) ∧ k_ ≠ gb212)) ?hr ?hp (fun _ hk => hk) ((show ∀ k_, wr.heap.size ≤ k_ → (fun k_ => (P0_1_ k_ ∨ w.heap.size ≤ k_) ∧ k_ ≠ gb212) k_ from fun k_ hk => ⟨(.inr (Nat.le_trans (below_size (by repeat (first | (with_reducible first | exact HB.out | apply below_alloc | apply pw_below_drewN | apply below_drew1 | refine below_set ?_ GE212.out) | exact HB.out))) hk)), Kd.freshB (g := gb212) (o := .cells #[.int .u64 1, .slice A0_1 l0_1.length c0_1] 25 (0, 0)) (by (with_reducible repeat (first | refine blk_drewN ?_ _ | refine blk_drew ?_ | refine blk_alloc ?_ _)); exact BK212.out) k_ hk⟩) _ (Nat.le_refl _)) (Below.refl _ _) (Nat.le_refl _) (by simp) ?_; (case hd => rfl); (case hg => rfl); (case hr => first | (go_simp; done) | (go_simp; rfl)); (case hp => exact (Reps.c2 (show Kd.FK k25 _ _ (⟨1, l0_1⟩ : S25) [.int .u64 1, .slice A0_1 l0_1.length c0_1] from (k25_mkF _ _ (⟨1, l0_1⟩ : S25) (Kd.V_reads' (Kd.V_mono (ok' := (fun k_ => (P0_1_ k_ ∨ w.heap.size ≤ k_) ∧ k_ ≠ gb212)) (HO_213001.out) (fun k_ hk => ⟨hk.1, hk.2⟩))).2.1 (Kd.V_F (Kd.V_mono (ok' := (fun k_ => (P0_1_ k_ ∨ w.heap.size ≤ k_) ∧ k_ ≠ gb212)) (HO_213001.out) (fun k_ hk => ⟨hk.1, hk.2⟩))))) (Reps.none _ _))); intro v214 w16 ho17 hb hg_ hnew_; clear hg_ hnew_; (first | rw [← Ny213.out] at ho17 | (simp only [Int.reduceToNat] at ho17; rw [← Ny213.out] at ho17)); have n0_ := Aside0.mk (Kd.V_elder' (by (with_reducible repeat (first | apply Kd.V_alloc | apply Kd.V_drewN | apply Kd.V_drew)); exact HO_213001.out) (Kd.N_base ho17) hb); have n1_ := Aside0.mk (Kd.N_lower ho17 (below_size (by repeat (first | (with_reducible first | exact HB.out | apply below_alloc | apply pw_below_drewN | apply below_drew1 | refine below_set ?_ GE212.out) | exact HB.out)))); have n2_ := Aside0.mk (blk_below (g := gb212) (o := .cells #[.int .u64 1, .slice A0_1 l0_1.length c0_1] 25 (0, 0)) (by (with_reducible repeat (first | refine blk_drewN ?_ _ | refine blk_drew ?_ | refine blk_alloc ?_ _)); exact BK212.out) hb); have n3_ := Aside0.mk (below_step (by repeat (first | (with_reducible first | exact HB.out | apply below_alloc | apply pw_below_drewN | apply below_drew1 | refine below_set ?_ GE212.out) | exact HB.out)) hb); clear HO_213001; clear BK212; clear HB; have HO_213001 := n0_; have HO215 := n1_; have BK212 := n2_; have HB := n3_; clear n0_ n1_ n2_ n3_; clear hb ho17; obtain ⟨Ao18, co18, eo18⟩ := Kd.N_slice HO215.out; subst eo18) | ((with_reducible refine gate_callee (f := 39) rfl ?_); refine goesL_ (some 32) rfl rfl Try.func39 (by kernel_rfl) rfl #[.slice Ao18 y213.length co18, .int .i64 a1, .int .u64 (IntKind.u64.wrap (x9_2))] rfl (by (try simp only [List.map_toArray, List.map_cons, List.map_nil]); first | done | rfl | (simp only [List.length_drop, List.length_take]; rfl)) ?_; (with_reducible refine (scrivenerref14_Set.calls k2 _ _ y213 a1 (IntKind.u64.wrap (x9_2)) t216 _ ?side1 ?side2 A12.out).mono ?_); (case side1 => repeat (first | exact (Kd.N_reads' HO215.out).2.2 | (with_reducible refine Kd.C_alloc ?_ _) | (with_reducible refine Kd.C_drewN ?_ _) | (with_reducible refine Kd.C_drew ?_))); (case side2 => exact (Kd.N_reads' HO215.out).2.1); rintro e w19 ⟨v217, rfl, ho0, hb⟩; refine ⟨_, rfl, ?_⟩; have n0_ := Aside0.mk (Kd.V_elder' (by (with_reducible repeat (first | apply Kd.V_alloc | apply Kd.V_drewN | apply Kd.V_drew)); exact HO_213001.out) (Kd.R_base ho0) hb); have n1_ := Aside0.mk (Kd.N_elder' (by (with_reducible repeat (first | apply Kd.N_alloc | apply Kd.N_drewN | apply Kd.N_drew)); exact HO215.out) (Kd.R_base ho0) hb); have n2_ := Aside0.mk (Kd.R_lower (Kd.R_newM (M := fun k_ => (w.heap.size ≤ k_)) ho0 (below_size (by repeat (first | (with_reducible first | exact HB.out | apply below_alloc | apply pw_below_drewN | apply below_drew1 | refine below_set ?_ GE212.out) | exact HB.out))) (fun k_ h_ => h_)) (below_size (by repeat (first | (with_reducible first | exact HB.out | apply below_alloc | apply pw_below_drewN | apply below_drew1 | refine below_set ?_ GE212.out) | exact HB.out)))); have n3_ := Aside0.mk (blk_below (g := gb212) (o := .cells #[.int .u64 1, .slice A0_1 l0_1.length c0_1] 25 (0, 0)) (by (with_reducible repeat (first | refine blk_drewN ?_ _ | refine blk_drew ?_ | refine blk_alloc ?_ _)); exact BK212.out) hb); have n4_ := Aside0.mk (below_step (by repeat (first | (with_reducible first | exact HB.out | apply below_alloc | apply pw_below_drewN | apply below_drew1 | refine below_set ?_ GE212.out) | exact HB.out)) hb); clear HO_213001; clear HO215; clear BK212; clear HB; have HO_213001 := n0_; have HO215 := n1_; have HO218 := n2_; have BK212 := n3_; have HB := n4_; clear n0_ n1_ n2_ n3_ n4_; (try clear hb); (try clear hb2); (try clear hk); (try clear hi); (try clear ho0); obtain ⟨Ao20, co20, eo20⟩ := Kd.R_slice HO218.out; subst eo20) | ((with_reducible refine gate_callee (f := 20) rfl ?_); refine goesL_ (some 36) rfl rfl Try.func20 (by kernel_rfl) rfl #[.slice Ao20 t216.length co20, .int .i64 a1, .int .i64 a2, .slice A3 l3.length c3] rfl (by (try simp only [List.map_toArray, List.map_cons, List.map_nil]); first | done | rfl | (simp only [List.length_drop, List.length_take]; rfl)) ?_; (with_reducible refine (scrivenerref14_Missing.calls k2 _ _ t216 a1 a2 _ _ l3 true _ ?side1 ?side2 ?side3 ?side4 A13.out).mono ?_); (case side1 => repeat (first | exact (Kd.R_reads' HO218.out).2.2 | (with_reducible refine Kd.C_alloc ?_ _) | (with_reducible refine Kd.C_drewN ?_ _) | (with_reducible refine Kd.C_drew ?_))); (case side2 => exact (Kd.R_reads' HO218.out).2.1); (case side3 => repeat (first | exact (Kd.C_below HR3.out HB.out) | (with_reducible refine Kd.C_alloc ?_ _) | (with_reducible refine Kd.C_drewN ?_ _) | (with_reducible refine Kd.C_drew ?_))); (case side4 => exact HC3.out); rintro e w' ⟨rfl, ⟨nd, rfl⟩⟩; refine ⟨_, rfl, ?_⟩))
                go_roundg k2
                case measure => have := HJ4.out; have := HK2.out; omega
                case rel => exact ⟨(wrap64 (x9_2 + 1)), (by first | rfl | (simp; done) | (simp [*]; done)), H', ⟨by have := HJ4.out; have := HK2.out; omega⟩, ⟨by (with_reducible repeat (first | apply Kd.V_alloc | apply Kd.V_drewN | apply Kd.V_drew)); exact Kd.V_mono HO_213001.out (fun _ hk => ⟨hk.1.1.1, hk.1.1.2⟩)⟩, ⟨by (with_reducible repeat (first | refine blk_drewN ?_ _ | refine blk_drew ?_ | refine blk_alloc ?_ _)); exact BK212.out⟩, ⟨by repeat (first | (with_reducible first | exact HB.out | apply below_alloc | apply pw_below_drewN | apply below_drew1 | refine below_set ?_ GE212.out) | exact HB.out)⟩⟩
              · replace c14 := Bool.eq_false_iff.mpr c14
                subst c14
                have H1 : (some false) = some r := by rw [if_neg (show ¬ (false = true) by decide)] at H; exact H
                clear H
                have H := H1
                clear H1
                obtain rfl := Option.some.inj H
                have hcz21_0 : wr.cell? ⟨gb212, 0, none⟩ = some (.int .u64 1) := (blk_cell BK212.out 0).trans rfl
                have hcz21_1 : wr.cell? ⟨gb212, 1, none⟩ = some (.slice A0_1 l0_1.length c0_1) := (blk_cell BK212.out 1).trans rfl
                have hfz21_0 := blk_frozen BK212.out 0
                have hfz21_1 := blk_frozen BK212.out 1
                go_wp2_with (first | ((with_reducible refine gate_dst (N := 28) rfl ?_); (try (refine gate_guard (by rfl) ?_; dsimp only)); refine Kd.N_lit k25 _ 25 ?hg (N' := 28) ?hd (xs := ([(⟨1, l0_1⟩ : S25)] : List (S25))) (inner := [.int .u64 1, .slice A0_1 l0_1.length c0_1]) (ok := (fun k_ => (P0_1_ k_ ∨ w.heap.size ≤ k_) ∧ k_ ≠ gb212)) (okp := (fun k_ => (P0_1_ k_ ∨ w.heap.size ≤ k_) ∧ k_ ≠ gb212)) ?hr ?hp (fun _ hk => hk) ((show ∀ k_, wr.heap.size ≤ k_ → (fun k_ => (P0_1_ k_ ∨ w.heap.size ≤ k_) ∧ k_ ≠ gb212) k_ from fun k_ hk => ⟨(.inr (Nat.le_trans (below_size (by repeat (first | (with_reducible first | exact HB.out | apply below_alloc | apply pw_below_drewN | apply below_drew1 | refine below_set ?_ GE212.out) | exact HB.out))) hk)), Kd.freshB (g := gb212) (o := .cells #[.int .u64 1, .slice A0_1 l0_1.length c0_1] 25 (0, 0)) (by (with_reducible repeat (first | refine blk_drewN ?_ _ | refine blk_drew ?_ | refine blk_alloc ?_ _)); exact BK212.out) k_ hk⟩) _ (Nat.le_refl _)) (Below.refl _ _) (Nat.le_refl _) (by simp) ?_; (case hd => rfl); (case hg => rfl); (case hr => first | (go_simp; done) | (go_simp; rfl)); (case hp => exact (Reps.c2 (show Kd.FK k25 _ _ (⟨1, l0_1⟩ : S25) [.int .u64 1, .slice A0_1 l0_1.length c0_1] from (k25_mkF _ _ (⟨1, l0_1⟩ : S25) (Kd.V_reads' (Kd.V_mono (ok' := (fun k_ => (P0_1_ k_ ∨ w.heap.size ≤ k_) ∧ k_ ≠ gb212)) (HO_213001.out) (fun k_ hk => ⟨hk.1, hk.2⟩))).2.1 (Kd.V_F (Kd.V_mono (ok' := (fun k_ => (P0_1_ k_ ∨ w.heap.size ≤ k_) ∧ k_ ≠ gb212)) (HO_213001.out) (fun k_ hk => ⟨hk.1, hk.2⟩))))) (Reps.none _ _))); intro v214 w22 ho23 hb hg_ hnew_; clear hg_ hnew_; (first | rw [← Ny213.out] at ho23 | (simp only [Int.reduceToNat] at ho23; rw [← Ny213.out] at ho23)); have n0_ := Aside0.mk (Kd.V_elder' (by (with_reducible repeat (first | apply Kd.V_alloc | apply Kd.V_drewN | apply Kd.V_drew)); exact HO_213001.out) (Kd.N_base ho23) hb); have n1_ := Aside0.mk (Kd.N_lower ho23 (below_size (by repeat (first | (with_reducible first | exact HB.out | apply below_alloc | apply pw_below_drewN | apply below_drew1 | refine below_set ?_ GE212.out) | exact HB.out)))); have n2_ := Aside0.mk (blk_below (g := gb212) (o := .cells #[.int .u64 1, .slice A0_1 l0_1.length c0_1] 25 (0, 0)) (by (with_reducible repeat (first | refine blk_drewN ?_ _ | refine blk_drew ?_ | refine blk_alloc ?_ _)); exact BK212.out) hb); have n3_ := Aside0.mk (below_step (by repeat (first | (with_reducible first | exact HB.out | apply below_alloc | apply pw_below_drewN | apply below_drew1 | refine below_set ?_ GE212.out) | exact HB.out)) hb); clear HO_213001; clear BK212; clear HB; have HO_213001 := n0_; have HO215 := n1_; have BK212 := n2_; have HB := n3_; clear n0_ n1_ n2_ n3_; clear hb ho23; obtain ⟨Ao24, co24, eo24⟩ := Kd.N_slice HO215.out; subst eo24) | ((with_reducible refine gate_callee (f := 39) rfl ?_); refine goesL_ (some 32) rfl rfl Try.func39 (by kernel_rfl) rfl #[.slice Ao24 y213.length co24, .int .i64 a1, .int .u64 (IntKind.u64.wrap (x9_2))] rfl (by (try simp only [List.map_toArray, List.map_cons, List.map_nil]); first | done | rfl | (simp only [List.length_drop, List.length_take]; rfl)) ?_; (with_reducible refine (scrivenerref14_Set.calls k2 _ _ y213 a1 (IntKind.u64.wrap (x9_2)) t216 _ ?side1 ?side2 A12.out).mono ?_); (case side1 => repeat (first | exact (Kd.N_reads' HO215.out).2.2 | (with_reducible refine Kd.C_alloc ?_ _) | (with_reducible refine Kd.C_drewN ?_ _) | (with_reducible refine Kd.C_drew ?_))); (case side2 => exact (Kd.N_reads' HO215.out).2.1); rintro e w25 ⟨v217, rfl, ho0, hb⟩; refine ⟨_, rfl, ?_⟩; have n0_ := Aside0.mk (Kd.V_elder' (by (with_reducible repeat (first | apply Kd.V_alloc | apply Kd.V_drewN | apply Kd.V_drew)); exact HO_213001.out) (Kd.R_base ho0) hb); have n1_ := Aside0.mk (Kd.N_elder' (by (with_reducible repeat (first | apply Kd.N_alloc | apply Kd.N_drewN | apply Kd.N_drew)); exact HO215.out) (Kd.R_base ho0) hb); have n2_ := Aside0.mk (Kd.R_lower (Kd.R_newM (M := fun k_ => (w.heap.size ≤ k_)) ho0 (below_size (by repeat (first | (with_reducible first | exact HB.out | apply below_alloc | apply pw_below_drewN | apply below_drew1 | refine below_set ?_ GE212.out) | exact HB.out))) (fun k_ h_ => h_)) (below_size (by repeat (first | (with_reducible first | exact HB.out | apply below_alloc | apply pw_below_drewN | apply below_drew1 | refine below_set ?_ GE212.out) | exact HB.out)))); have n3_ := Aside0.mk (blk_below (g := gb212) (o := .cells #[.int .u64 1, .slice A0_1 l0_1.length c0_1] 25 (0, 0)) (by (with_reducible repeat (first | refine blk_drewN ?_ _ | refine blk_drew ?_ | refine blk_alloc ?_ _)); exact BK212.out) hb); have n4_ := Aside0.mk (below_step (by repeat (first | (with_reducible first | exact HB.out | apply below_alloc | apply pw_below_drewN | apply below_drew1 | refine below_set ?_ GE212.out) | exact HB.out)) hb); clear HO_213001; clear HO215; clear BK212; clear HB; have HO_213001 := n0_; have HO215 := n1_; have HO218 := n2_; have BK212 := n3_; have HB := n4_; clear n0_ n1_ n2_ n3_ n4_; (try clear hb); (try clear hb2); (try clear hk); (try clear hi); (try clear ho0); obtain ⟨Ao26, co26, eo26⟩ := Kd.R_slice HO218.out; subst eo26) | ((with_reducible refine gate_callee (f := 20) rfl ?_); refine goesL_ (some 36) rfl rfl Try.func20 (by kernel_rfl) rfl #[.slice Ao26 t216.length co26, .int .i64 a1, .int .i64 a2, .slice A3 l3.length c3] rfl (by (try simp only [List.map_toArray, List.map_cons, List.map_nil]); first | done | rfl | (simp only [List.length_drop, List.length_take]; rfl)) ?_; (with_reducible refine (scrivenerref14_Missing.calls k2 _ _ t216 a1 a2 _ _ l3 false _ ?side1 ?side2 ?side3 ?side4 A13.out).mono ?_); (case side1 => repeat (first | exact (Kd.R_reads' HO218.out).2.2 | (with_reducible refine Kd.C_alloc ?_ _) | (with_reducible refine Kd.C_drewN ?_ _) | (with_reducible refine Kd.C_drew ?_))); (case side2 => exact (Kd.R_reads' HO218.out).2.1); (case side3 => repeat (first | exact (Kd.C_below HR3.out HB.out) | (with_reducible refine Kd.C_alloc ?_ _) | (with_reducible refine Kd.C_drewN ?_ _) | (with_reducible refine Kd.C_drew ?_))); (case side4 => exact HC3.out); rintro e w' ⟨rfl, ⟨nd, rfl⟩⟩; refine ⟨_, rfl, ?_⟩))
                go_ret
                exact ⟨by first | rfl | (simp [errW_none, errW_some] <;> rfl) | (simp [*, errW_none, errW_some] <;> rfl), by repeat (first | (with_reducible first | exact HB.out | apply below_alloc | apply pw_below_drewN | apply below_drew1 | refine below_set ?_ GE212.out) | exact HB.out)⟩
            · rw [if_neg c11] at H
              have c11b0 : decide (x9_2 ≤ (l0_1.length : Int)) = false := decide_eq_false c11
              clear c11
              obtain rfl := Option.some.inj H
              have hcz27_0 : wr.cell? ⟨gb212, 0, none⟩ = some (.int .u64 1) := (blk_cell BK212.out 0).trans rfl
              have hcz27_1 : wr.cell? ⟨gb212, 1, none⟩ = some (.slice A0_1 l0_1.length c0_1) := (blk_cell BK212.out 1).trans rfl
              have hfz27_0 := blk_frozen BK212.out 0
              have hfz27_1 := blk_frozen BK212.out 1
              go_wp2
              go_ret
              exact ⟨by first | rfl | (simp [errW_none, errW_some] <;> rfl) | (simp [*, errW_none, errW_some] <;> rfl), by repeat (first | (with_reducible first | exact HB.out | apply below_alloc | apply pw_below_drewN | apply below_drew1 | refine below_set ?_ GE212.out) | exact HB.out)⟩
end Go.Proofs.Ytipjnfljkknmgaa.Q
