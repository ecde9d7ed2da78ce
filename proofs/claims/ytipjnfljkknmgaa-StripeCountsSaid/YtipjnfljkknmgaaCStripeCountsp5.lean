/- Part 5 of the proof of the row StripeCounts: written for this claim by the session and by a program of its own. -/
import Derived.Test.YtipjnfljkknmgaaCStripeCountsp0
import Derived.Deep.Slices
import Derived.ChangeSame
import Derived.SizedLaws
import Derived.ProofKit
import Derived.Test.YtipjnfljkknmgaaCStripeCountsp1
import Derived.Test.YtipjnfljkknmgaaCStripeCountsp4
import Derived.Test.YtipjnfljkknmgaaCStripeCountsp2
/- What came in, opened: a reading (DataW.trod) of a type whose kind is known gives a value of the kind, its numbers' bounds, its rows' sizes. -/
namespace Go.Proofs.Ytipjnfljkknmgaa.Q
open Go.RowKit Go.Proofs.YtipjnfljkknmgaaW.PrintWords Go.Proofs.YtipjnfljkknmgaaW.PrintLast Go.Proofs.YtipjnfljkknmgaaW.PrintMore
set_option linter.unusedVariables false
set_option linter.unusedSimpArgs false
open Go.ChangeShapes Go.WideShapes Go.Deep

structure Opens (P : Program) {α : Type} (d : Kd α) (t : TypeId) (Q : α → Prop) : Prop where
  sz : P.cellsOf t = d.sz
  go : ∀ {H : Type} {enc : TypeId × Value → H} {w : World} {base : Nat} {spare : Nat → Bool} {held : Bool} {fuel : Nat} {cs : List Value} {x : DataW H × List MemPlace}, DataW.trod enc P w base spare held fuel t cs = some x → (∀ m ∈ x.1.weights P t, m ≤ reachBytes) → ∃ a, d.K w a cs ∧ Q a
/-- The same for a struct's fields from one on, the cells before it left out. -/
structure OpensF (P : Program) {α : Type} (d : Kd α) (fs : List Field) (o : Nat) (Q : α → Prop) : Prop where
  go : ∀ {H : Type} {enc : TypeId × Value → H} {w : World} {base : Nat} {spare : Nat → Bool} {held : Bool} {n : Nat} {cs : List Value} {xs : List (DataW H × List MemPlace)}, cs.length = o + d.sz → xs.length = fs.length →
    (∀ (i : Nat) (f : Field), fs[i]? = some f → DataW.trod enc P w base spare held n f.type ((cs.drop f.offset).take (P.cellsOf f.type)) = xs[i]?) → (∀ m ∈ DataW.weightsEach P (fs.map (·.type)) (xs.map (·.1)), m ≤ reachBytes) → ∃ a, d.K w a (cs.drop o) ∧ Q a

section
variable {P : Program} {t e : TypeId} {α β : Type} {d : Kd α} {d' : Kd β} {Q : α → Prop} {Q' : β → Prop} {o : Nat} {f : Field} {fs : List Field}
theorem opens_int {k : IntKind} (ht : P.underlying t = some (.int k)) (hs : P.cellsOf t = 1) : Opens P (Kd.int k) t (fun n => (Lit.int k n).wf = true) := ⟨hs, fun h _ => by
  obtain ⟨n, rfl, _, hw⟩ := DataW.trod_int ht h
  exact ⟨n, rfl, hw⟩⟩
theorem opens_bool (ht : P.underlying t = some .bool) (hs : P.cellsOf t = 1) : Opens P Kd.bool t (fun _ => True) := ⟨hs, fun h _ => by
  obtain ⟨n, rfl, _⟩ := DataW.trod_bool ht h
  exact ⟨n, rfl, trivial⟩⟩
theorem opens_string (ht : P.underlying t = some .string) (hs : P.cellsOf t = 1) : Opens P Kd.string t (fun s => s.size ≤ reachBytes) := ⟨hs, fun h hw => by
  obtain ⟨s, rfl, rfl, _⟩ := DataW.trod_string ht h
  refine ⟨s, rfl, ?_⟩
  have := hw s.data.toList.length (by simp [DataW.weights])
  simpa using this⟩
theorem opens_iso {g : β → α} (h : Opens P d t Q) (b : α → β) (hb : ∀ a, g (b a) = a) (hq : ∀ a, Q a → Q' (b a)) : Opens P (Kd.iso d g) t Q' := ⟨h.sz, fun ht hw => by
  obtain ⟨a, hk, ha⟩ := h.go ht hw
  exact ⟨b a, by show d.K _ (g (b a)) _; rw [hb]; exact hk, hq a ha⟩⟩
theorem opensF_one (hf : f.offset = o) (h : Opens P d f.type Q) : OpensF P d [f] o Q := ⟨by
  intro H enc w base spare held n cs xs hl hx ht hw
  obtain ⟨x, rfl⟩ : ∃ x, xs = [x] := List.length_eq_one_iff.1 hx
  have h1 := ht 0 f rfl
  rw [h.sz, hf, List.take_of_length_le (by rw [List.length_drop]; omega)] at h1
  exact h.go h1 (fun m hm => hw m (by simpa [DataW.weightsEach] using hm))⟩
theorem opensF_cons (hf : f.offset = o) (h : Opens P d f.type Q) (hr : OpensF P d' fs (o + d.sz) Q') : OpensF P (Kd.pair d d') (f :: fs) o (fun x => Q x.1 ∧ Q' x.2) := ⟨by
  intro H enc w base spare held n cs xs hl hx ht hw
  have hl' : cs.length = o + (d.sz + d'.sz) := hl
  cases xs with
  | nil => cases hx
  | cons x xs =>
    have h1 := ht 0 f rfl
    rw [h.sz, hf] at h1
    simp only [List.map_cons, DataW.weightsEach, List.mem_append] at hw
    obtain ⟨a, ka, qa⟩ := h.go h1 (fun m hm => hw m (.inl hm))
    obtain ⟨b, kb, qb⟩ := hr.go (xs := xs) (by omega) (by simpa using hx) (fun i f' hi => ht (i + 1) f' (by simpa using hi)) (fun m hm => hw m (.inr hm))
    refine ⟨(a, b), ⟨_, _, ?_, ka, kb⟩, qa, qb⟩
    rw [← List.drop_drop, List.take_append_drop]⟩
theorem opens_struct {fa : Array Field} (ht : P.underlying t = some (.struct fa)) (hs : P.cellsOf t = d.sz) (h : OpensF P d fa.toList 0 Q) : Opens P d t Q := ⟨hs, fun hx hw => by
  obtain ⟨xs, n, _, rfl, hl, hlx, hi⟩ := DataW.trod_struct ht hx
  have := h.go (xs := xs) (by rw [hl, hs, Nat.zero_add]) (by simpa using hlx) (fun i f hf => hi i f (by simpa using hf)) (fun m hm => hw m (by simpa only [DataW.weights, ht] using hm))
  simpa using this⟩
theorem list_of {p : Nat → α → Prop} (n : Nat) (h : ∀ i, i < n → ∃ a, p i a) : ∃ xs : List α, xs.length = n ∧ ∀ i a, xs[i]? = some a → p i a := by
  induction n with
  | zero => exact ⟨[], rfl, fun i a h => by simp at h⟩
  | succ n ih =>
    obtain ⟨xs, hl, hx⟩ := ih (fun i hi => h i (by omega))
    obtain ⟨a, ha⟩ := h n (by omega)
    refine ⟨xs ++ [a], by simp [hl], fun i b hb => ?_⟩
    rcases Nat.lt_or_ge i xs.length with hi | hi
    · rw [List.getElem?_append_left hi] at hb
      exact hx i b hb
    · rw [List.getElem?_append_right hi] at hb
      have h0 := (List.getElem?_eq_some_iff.1 hb).1
      simp only [List.length_singleton] at h0
      have hi' : i = n := by omega
      subst hi'
      rw [← hl] at hb ⊢
      simp at hb
      subst hb
      rw [hl]
      exact ha
theorem weightsAll_mem {H : Type} : ∀ {ds : List (DataW H)} {y : DataW H}, y ∈ ds → ∀ m ∈ y.weights P e, m ∈ DataW.weightsAll P e ds
  | d :: ds, y, hy, m, hm => by
    rcases List.mem_cons.1 hy with rfl | hy
    · simp only [DataW.weightsAll, List.mem_append]; exact .inl hm
    · simp only [DataW.weightsAll, List.mem_append]; exact .inr (weightsAll_mem hy m hm)
theorem opens_row (ht : P.underlying t = some (.slice e)) (h : Opens P d e Q) {H : Type} {enc : TypeId × Value → H} {w : World} {base : Nat} {spare : Nat → Bool} {held : Bool} {fuel : Nat} {cs : List Value} {x : DataW H × List MemPlace}
    (hx : DataW.trod enc P w base spare held fuel t cs = some x) (hw : ∀ m ∈ x.1.weights P t, m ≤ reachBytes) : ∃ A c xs, cs = [.slice A xs.length c] ∧ xs.length ≤ c ∧ d.C w A xs.length xs ∧ xs.length * P.bytesOf e ≤ reachBytes ∧ ∀ y ∈ xs, Q y := by
  rcases open_slice ht hx with ⟨rfl, rfl⟩ | ⟨a, len, cap, m, n, D, Pl, rfl, hb, hl, hm, hmm, rfl, hi⟩
  · exact ⟨none, 0, [], rfl, Nat.le_refl _, ⟨rfl, by simp, fun h0 => absurd h0 (by simp)⟩, by simp, by simp⟩
  · simp only [DataW.weights, ht, List.mem_cons, List.mem_append] at hw
    have hlm : len ≤ m := by rw [hmm]; split <;> omega
    have hi' : ∀ i, i < len → ∃ y, (∃ cs', w.cells? base (a.add (i * P.cellsOf e)) (P.cellsOf e) = some cs' ∧ d.K w y cs') ∧ Q y := by
      intro i hil
      obtain ⟨cs', hc, hx'⟩ := hi i (by omega)
      obtain ⟨y, hk, hq⟩ := h.go hx' (fun m' hm' => hw m' (.inr (.inl (weightsAll_mem (List.mem_map.2 ⟨i, List.mem_range.2 hil, rfl⟩) m' hm'))))
      exact ⟨y, ⟨cs', hc, hk⟩, hq⟩
    obtain ⟨xs, hxl, hxs⟩ := list_of len hi'
    subst hxl
    refine ⟨some a, cap, xs, rfl, hl, ⟨rfl, by simp only [maxLen] at hm; omega, fun _ => ⟨a, rfl, fun j p hj => ?_⟩⟩, ?_, fun y hy => ?_⟩
    · obtain ⟨⟨cs', hc, hk⟩, _⟩ := hxs j p hj
      refine ⟨cs', d.K_len hk, hk, fun i u hu => ?_⟩
      obtain ⟨_, hcl, hat⟩ := World.cells?_some hc
      have hil := (List.getElem?_eq_some_iff.1 hu).1
      have := hat i (by omega)
      rw [h.sz] at this
      rw [← Go.Deep.add_add, this, hu]
    · have := hw _ (.inl rfl)
      rw [List.length_map, List.length_range, List.length_map, List.length_range] at this
      exact Nat.le_trans (Nat.mul_le_mul_right _ (by omega)) this
    · obtain ⟨i, hil, rfl⟩ := List.mem_iff_getElem.1 hy
      exact (hxs i _ (List.getElem?_eq_getElem hil)).2
theorem opens_slice {e' : Nat} (ht : P.underlying t = some (.slice e)) (hs : P.cellsOf t = 1) (h : Opens P d e Q) : Opens P (Kd.slice e' d) t (fun xs => xs.length * P.bytesOf e ≤ reachBytes ∧ ∀ y ∈ xs, Q y) := ⟨hs, fun hx hw => by
  obtain ⟨A, c, xs, rfl, hl, hC, hb, hq⟩ := opens_row ht h hx hw
  exact ⟨xs, ⟨A, c, rfl, hl, hC⟩, hb, hq⟩⟩
theorem heap_F (hd : Kd.Heap d) {w : World} {A : Option Addr} {n : Nat} {xs : List α} (h : d.C w A n xs) : Kd.F d w (fun _ => True) A n xs := fun W' hW => hd.C (fun k hk => hW k trivial hk) h
/-- A parameter that is a row. -/
theorem open_V (ht : P.underlying t = some (.slice e)) (h : Opens P d e Q) (hd : Kd.Heap d) (e' : Nat) {H : Type} {enc : TypeId × Value → H} {w : World} {base : Nat} {spare : Nat → Bool} {held : Bool} {v : Value} {y : DataW H} {ps : List MemPlace} {r : Reach} {b0 : Nat}
    (hv : Value.okWide P w r b0 t v) (hx : DataW.Trod enc P w base spare held t v y ps) (hw : ∀ m ∈ y.weights P t, m ≤ reachBytes) : ∃ A c xs, v = .slice A xs.length c ∧ Kd.V d e' w w.heap.size (fun _ => True) (.slice A xs.length c) xs ∧ xs.length * P.bytesOf e ≤ reachBytes ∧ ∀ z ∈ xs, Q z := by
  obtain ⟨a, len, cap, rfl⟩ := okWide_slice ht hv
  obtain ⟨fuel, hx⟩ := hx
  obtain ⟨A, c, xs, hcs, hl, hC, hb, hq⟩ := opens_row ht h hx hw
  simp only [Value.cells, List.cons.injEq, Value.slice.injEq, and_true] at hcs
  obtain ⟨rfl, rfl, rfl⟩ := hcs
  exact ⟨a, cap, xs, rfl, ⟨a, cap, rfl, hl, heap_F hd hC⟩, hb, hq⟩
/-- A parameter that is a struct. -/
theorem open_K {fa : Array Field} (ht : P.underlying t = some (.struct fa)) (h : Opens P d t Q) {H : Type} {enc : TypeId × Value → H} {w : World} {base : Nat} {spare : Nat → Bool} {held : Bool} {v : Value} {y : DataW H} {ps : List MemPlace} {r : Reach} {b0 : Nat}
    (hv : Value.okWide P w r b0 t v) (hx : DataW.Trod enc P w base spare held t v y ps) (hw : ∀ m ∈ y.weights P t, m ≤ reachBytes) : ∃ cs a, v = .agg cs.toArray ∧ d.K w a cs ∧ Q a := by
  obtain ⟨cs, rfl, hsz⟩ := okWide_struct ht hv
  obtain ⟨fuel, hx⟩ := hx
  obtain ⟨a, hk, hq⟩ := h.go hx hw
  exact ⟨cs.toList, a, by simp, hk, hq⟩
theorem weights_of {ts : List TypeId} {H : Type} {ds : List (DataW H)} {j : Nat} {y : DataW H} (h : (DataW.weightsEach P ts ds).all (· ≤ reachBytes) = true) (ht : ts[j]? = some t) (hd : ds[j]? = some y) : ∀ m ∈ y.weights P t, m ≤ reachBytes := fun m hm => by
  simpa using List.all_eq_true.1 h m (DataW.weights_mem_each ht hd m hm)
end
end Go.Proofs.Ytipjnfljkknmgaa.Q
-- Written for this claim by a program of this session, out of the translation. Lean checks it.
namespace Go.Proofs.Ytipjnfljkknmgaa.Q
open Go.RowKit Go.Proofs.YtipjnfljkknmgaaW.PrintWords Go.Proofs.YtipjnfljkknmgaaW.PrintLast Go.Proofs.YtipjnfljkknmgaaW.PrintMore
set_option linter.unusedVariables false
theorem opens_i64 {P : Program} {t : TypeId} (ht : P.underlying t = some (.int .i64)) (hs : P.cellsOf t = 1) : Opens P (Kd.int .i64) t (fun x => -9223372036854775808 ≤ x ∧ x ≤ 9223372036854775807) := ⟨hs, fun h hw => by
  obtain ⟨a, hk, ha⟩ := (opens_int ht hs).go h hw
  refine ⟨a, hk, ?_⟩
  simp [Lit.wf, IntKind.min, IntKind.max, IntKind.signed, IntKind.bits] at ha
  omega⟩
theorem opens_u64 {P : Program} {t : TypeId} (ht : P.underlying t = some (.int .u64)) (hs : P.cellsOf t = 1) : Opens P (Kd.int .u64) t (fun x => 0 ≤ x ∧ x < 18446744073709551616) := ⟨hs, fun h hw => by
  obtain ⟨a, hk, ha⟩ := (opens_int ht hs).go h hw
  refine ⟨a, hk, ?_⟩
  simp [Lit.wf, IntKind.min, IntKind.max, IntKind.signed, IntKind.bits] at ha
  omega⟩
theorem opens_u8 {P : Program} {t : TypeId} (ht : P.underlying t = some (.int .u8)) (hs : P.cellsOf t = 1) : Opens P (Kd.int .u8) t (fun x => 0 ≤ x ∧ x < 256) := ⟨hs, fun h hw => by
  obtain ⟨a, hk, ha⟩ := (opens_int ht hs).go h hw
  refine ⟨a, hk, ?_⟩
  simp [Lit.wf, IntKind.min, IntKind.max, IntKind.signed, IntKind.bits] at ha
  omega⟩
theorem opens_str {P : Program} {t : TypeId} (ht : P.underlying t = some .string) (hs : P.cellsOf t = 1) : Opens P Kd.string t (fun s => s.size ≤ 140737488351232) := opens_string ht hs
theorem opens_rows {P : Program} {t e : TypeId} {α : Type} {d : Kd α} {Q : α → Prop} {e' B : Nat} (ht : P.underlying t = some (.slice e)) (hs : P.cellsOf t = 1) (hb : P.bytesOf e = B) (h : Opens P d e Q) : Opens P (Kd.slice e' d) t (fun xs => xs.length * B ≤ 140737488351232 ∧ ∀ y ∈ xs, Q y) := by subst hb; exact opens_slice ht hs h
theorem open_row {P : Program} {t e : TypeId} {α : Type} {d : Kd α} {Q : α → Prop} {B : Nat} (ht : P.underlying t = some (.slice e)) (hb : P.bytesOf e = B) (h : Opens P d e Q) (hd : Kd.Heap d) (e' : Nat) {H : Type} {enc : TypeId × Value → H} {w : World} {base : Nat} {spare : Nat → Bool} {held : Bool} {v : Value} {y : DataW H} {ps : List MemPlace} {r : Reach} {b0 : Nat}
    (hv : Value.okWide P w r b0 t v) (hx : DataW.Trod enc P w base spare held t v y ps) (hw : ∀ m ∈ y.weights P t, m ≤ reachBytes) : ∃ A c xs, v = .slice A xs.length c ∧ Kd.V d e' w w.heap.size (fun _ => True) (.slice A xs.length c) xs ∧ xs.length * B ≤ 140737488351232 ∧ ∀ z ∈ xs, Q z := by subst hb; exact open_V ht h hd e' hv hx hw
def ok32 (x : S32) : Prop := (-9223372036854775808 ≤ x.f0 ∧ x.f0 ≤ 9223372036854775807) ∧ (0 ≤ x.f1 ∧ x.f1 < 18446744073709551616)
theorem heap_32 : Kd.Heap k32 := Kd.heap_iso _ (Kd.heap_pair (Kd.heap_int _) (Kd.heap_int _))
theorem opens_32 : Opens Try.prog k32 32 ok32 := opens_iso (opens_struct Try.underlying32 (by kernel_rfl) (opensF_cons rfl (opens_i64 Try.underlying3 (by kernel_rfl)) (opensF_one rfl (opens_u64 Try.underlying22 (by kernel_rfl))))) (fun p => ⟨p.1, p.2⟩) (fun _ => rfl) (fun p h => h)
def ok25 (x : S25) : Prop := (0 ≤ x.f0 ∧ x.f0 < 18446744073709551616) ∧ (x.f1.length * 16 ≤ 140737488351232 ∧ ∀ y ∈ x.f1, ok32 y)
theorem heap_25 : Kd.Heap k25 := Kd.heap_iso _ (Kd.heap_pair (Kd.heap_int _) (Kd.heap_slice _ heap_32))
theorem opens_25 : Opens Try.prog k25 25 ok25 := opens_iso (opens_struct Try.underlying25 (by kernel_rfl) (opensF_cons rfl (opens_u64 Try.underlying22 (by kernel_rfl)) (opensF_one rfl (opens_rows (B := 16) Try.underlying23 (by kernel_rfl) (by kernel_rfl) opens_32)))) (fun p => ⟨p.1, p.2⟩) (fun _ => rfl) (fun p h => h)
end Go.Proofs.Ytipjnfljkknmgaa.Q
-- Written for this claim by a program of this session, out of the translation. Lean checks it.
namespace Go.Proofs.Ytipjnfljkknmgaa.Q
open Go.RowKit Go.Proofs.YtipjnfljkknmgaaW.PrintWords Go.Proofs.YtipjnfljkknmgaaW.PrintLast Go.Proofs.YtipjnfljkknmgaaW.PrintMore
attribute [local go_sem] max2_int min2_int max_two min_two max_three min_three max_four min_four   -- for this text's walks alone
set_option linter.unusedVariables false
set_option linter.unusedSimpArgs false

/-! ### scrivenerref07_MayPlace: function 32 -/
def scrivenerref07_MayPlace.f (a0_0 : Int) (a0_1 : Int) : Option (Bool) := if a0_0 > 0 then (if a0_0 ≤ 15 then (if a0_1 > 0 then (some (decide (a0_1 ≤ 4611686018427387903))) else (some false)) else (some false)) else (some false)
set_option maxHeartbeats 8000000 in
set_option maxRecDepth 100000 in
theorem scrivenerref07_MayPlace.calls (a0_0 : Int) (a0_1 : Int) (r : Bool) (w : World) (h : scrivenerref07_MayPlace.f a0_0 a0_1 = some r) :
    Calls Try.prog 32 #[.agg #[.int .i64 a0_0, .int .u64 a0_1]] w fun e w' => e = .returned (.bool r) ∧ Below w.heap.size w w' := by
  have hu32 := Try.underlying32
  have HB := Aside0.mk (Below.refl w.heap.size w)
  have H : (if a0_0 > 0 then (if a0_0 ≤ 15 then (if a0_1 > 0 then (some (decide (a0_1 ≤ 4611686018427387903))) else (some false)) else (some false)) else (some false)) = some r := h
  clear h
  by_cases c2 : a0_0 > 0
  · rw [if_pos c2] at H
    have c2b0 : decide (0 < a0_0) = true := decide_eq_true c2
    clear c2
    by_cases c3 : a0_0 ≤ 15
    · rw [if_pos c3] at H
      have c3b0 : decide (a0_0 ≤ 15) = true := decide_eq_true c3
      clear c3
      by_cases c4 : a0_1 > 0
      · rw [if_pos c4] at H
        have c4b0 : decide (0 < a0_1) = true := decide_eq_true c4
        clear c4
        obtain rfl := Option.some.inj H
        go_enter Try.func32, Try.ntmps32
        go_wp2_with (first | ((with_reducible refine gate_dst (N := 1) rfl ?_); refine box_event ?hg (N := 1) ?hd (cs := #[.int .i64 a0_0, .int .u64 a0_1]) (t := 32) ?hr ?_; (case hd => rfl); (case hg => rfl); (case hr => first | (go_simp; done) | (go_simp; rfl)); intro gb102 hg w5 hbox hb; have n0_ := Aside0.mk (below_step (by repeat (first | (with_reducible first | exact HB.out | apply below_alloc | apply pw_below_drewN | apply below_drew1) | exact HB.out)) hb); have n1_ := Aside0.mk (hbox); have n2_ := Aside0.mk ((by rw [hg]; exact (below_size (by repeat (first | (with_reducible first | exact HB.out | apply below_alloc | apply pw_below_drewN | apply below_drew1) | exact HB.out))) : w.heap.size ≤ gb102)); have n3_ := Aside0.mk ((by rw [hg]; exact (below_size (by repeat (first | (with_reducible first | exact HB.out | apply below_alloc | apply pw_below_drewN | apply below_drew1) | exact HB.out))) : w.heap.size ≤ gb102)); clear HB; have HB := n0_; have BK102 := n1_; have GW102 := n2_; have GE102 := n3_; clear n0_ n1_ n2_ n3_; clear hb hbox hg; have hcz6_0 : w5.cell? ⟨gb102, 0, none⟩ = some (.int .i64 a0_0) := (blk_cell BK102.out 0).trans rfl; have hcz6_1 : w5.cell? ⟨gb102, 1, none⟩ = some (.int .u64 a0_1) := (blk_cell BK102.out 1).trans rfl; have hfz6_0 := blk_frozen BK102.out 0; have hfz6_1 := blk_frozen BK102.out 1))
        go_ret
        exact ⟨by first | rfl | (simp [errW_none, errW_some] <;> rfl) | (simp [*, errW_none, errW_some] <;> rfl), by repeat (first | (with_reducible first | exact HB.out | apply below_alloc | apply pw_below_drewN | apply below_drew1 | refine below_set ?_ GE102.out) | exact HB.out)⟩
      · rw [if_neg c4] at H
        have c4b0 : decide (0 < a0_1) = false := decide_eq_false c4
        clear c4
        obtain rfl := Option.some.inj H
        go_enter Try.func32, Try.ntmps32
        go_wp2_with (first | ((with_reducible refine gate_dst (N := 1) rfl ?_); refine box_event ?hg (N := 1) ?hd (cs := #[.int .i64 a0_0, .int .u64 a0_1]) (t := 32) ?hr ?_; (case hd => rfl); (case hg => rfl); (case hr => first | (go_simp; done) | (go_simp; rfl)); intro gb102 hg w7 hbox hb; have n0_ := Aside0.mk (below_step (by repeat (first | (with_reducible first | exact HB.out | apply below_alloc | apply pw_below_drewN | apply below_drew1) | exact HB.out)) hb); have n1_ := Aside0.mk (hbox); have n2_ := Aside0.mk ((by rw [hg]; exact (below_size (by repeat (first | (with_reducible first | exact HB.out | apply below_alloc | apply pw_below_drewN | apply below_drew1) | exact HB.out))) : w.heap.size ≤ gb102)); have n3_ := Aside0.mk ((by rw [hg]; exact (below_size (by repeat (first | (with_reducible first | exact HB.out | apply below_alloc | apply pw_below_drewN | apply below_drew1) | exact HB.out))) : w.heap.size ≤ gb102)); clear HB; have HB := n0_; have BK102 := n1_; have GW102 := n2_; have GE102 := n3_; clear n0_ n1_ n2_ n3_; clear hb hbox hg; have hcz8_0 : w7.cell? ⟨gb102, 0, none⟩ = some (.int .i64 a0_0) := (blk_cell BK102.out 0).trans rfl; have hcz8_1 : w7.cell? ⟨gb102, 1, none⟩ = some (.int .u64 a0_1) := (blk_cell BK102.out 1).trans rfl; have hfz8_0 := blk_frozen BK102.out 0; have hfz8_1 := blk_frozen BK102.out 1))
        go_ret
        exact ⟨by first | rfl | (simp [errW_none, errW_some] <;> rfl) | (simp [*, errW_none, errW_some] <;> rfl), by repeat (first | (with_reducible first | exact HB.out | apply below_alloc | apply pw_below_drewN | apply below_drew1 | refine below_set ?_ GE102.out) | exact HB.out)⟩
    · rw [if_neg c3] at H
      have c3b0 : decide (a0_0 ≤ 15) = false := decide_eq_false c3
      clear c3
      obtain rfl := Option.some.inj H
      go_enter Try.func32, Try.ntmps32
      go_wp2_with (first | ((with_reducible refine gate_dst (N := 1) rfl ?_); refine box_event ?hg (N := 1) ?hd (cs := #[.int .i64 a0_0, .int .u64 a0_1]) (t := 32) ?hr ?_; (case hd => rfl); (case hg => rfl); (case hr => first | (go_simp; done) | (go_simp; rfl)); intro gb102 hg w9 hbox hb; have n0_ := Aside0.mk (below_step (by repeat (first | (with_reducible first | exact HB.out | apply below_alloc | apply pw_below_drewN | apply below_drew1) | exact HB.out)) hb); have n1_ := Aside0.mk (hbox); have n2_ := Aside0.mk ((by rw [hg]; exact (below_size (by repeat (first | (with_reducible first | exact HB.out | apply below_alloc | apply pw_below_drewN | apply below_drew1) | exact HB.out))) : w.heap.size ≤ gb102)); have n3_ := Aside0.mk ((by rw [hg]; exact (below_size (by repeat (first | (with_reducible first | exact HB.out | apply below_alloc | apply pw_below_drewN | apply below_drew1) | exact HB.out))) : w.heap.size ≤ gb102)); clear HB; have HB := n0_; have BK102 := n1_; have GW102 := n2_; have GE102 := n3_; clear n0_ n1_ n2_ n3_; clear hb hbox hg; have hcz10_0 : w9.cell? ⟨gb102, 0, none⟩ = some (.int .i64 a0_0) := (blk_cell BK102.out 0).trans rfl; have hcz10_1 : w9.cell? ⟨gb102, 1, none⟩ = some (.int .u64 a0_1) := (blk_cell BK102.out 1).trans rfl; have hfz10_0 := blk_frozen BK102.out 0; have hfz10_1 := blk_frozen BK102.out 1))
      go_ret
      exact ⟨by first | rfl | (simp [errW_none, errW_some] <;> rfl) | (simp [*, errW_none, errW_some] <;> rfl), by repeat (first | (with_reducible first | exact HB.out | apply below_alloc | apply pw_below_drewN | apply below_drew1 | refine below_set ?_ GE102.out) | exact HB.out)⟩
  · rw [if_neg c2] at H
    have c2b0 : decide (0 < a0_0) = false := decide_eq_false c2
    clear c2
    obtain rfl := Option.some.inj H
    go_enter Try.func32, Try.ntmps32
    go_wp2_with (first | ((with_reducible refine gate_dst (N := 1) rfl ?_); refine box_event ?hg (N := 1) ?hd (cs := #[.int .i64 a0_0, .int .u64 a0_1]) (t := 32) ?hr ?_; (case hd => rfl); (case hg => rfl); (case hr => first | (go_simp; done) | (go_simp; rfl)); intro gb102 hg w11 hbox hb; have n0_ := Aside0.mk (below_step (by repeat (first | (with_reducible first | exact HB.out | apply below_alloc | apply pw_below_drewN | apply below_drew1) | exact HB.out)) hb); have n1_ := Aside0.mk (hbox); have n2_ := Aside0.mk ((by rw [hg]; exact (below_size (by repeat (first | (with_reducible first | exact HB.out | apply below_alloc | apply pw_below_drewN | apply below_drew1) | exact HB.out))) : w.heap.size ≤ gb102)); have n3_ := Aside0.mk ((by rw [hg]; exact (below_size (by repeat (first | (with_reducible first | exact HB.out | apply below_alloc | apply pw_below_drewN | apply below_drew1) | exact HB.out))) : w.heap.size ≤ gb102)); clear HB; have HB := n0_; have BK102 := n1_; have GW102 := n2_; have GE102 := n3_; clear n0_ n1_ n2_ n3_; clear hb hbox hg; have hcz12_0 : w11.cell? ⟨gb102, 0, none⟩ = some (.int .i64 a0_0) := (blk_cell BK102.out 0).trans rfl; have hcz12_1 : w11.cell? ⟨gb102, 1, none⟩ = some (.int .u64 a0_1) := (blk_cell BK102.out 1).trans rfl; have hfz12_0 := blk_frozen BK102.out 0; have hfz12_1 := blk_frozen BK102.out 1))
    go_ret
    exact ⟨by first | rfl | (simp [errW_none, errW_some] <;> rfl) | (simp [*, errW_none, errW_some] <;> rfl), by repeat (first | (with_reducible first | exact HB.out | apply below_alloc | apply pw_below_drewN | apply below_drew1 | refine below_set ?_ GE102.out) | exact HB.out)⟩

end Go.Proofs.Ytipjnfljkknmgaa.Q
-- Written for this claim by a program of this session, out of the translation. Lean checks it.
namespace Go.Proofs.Ytipjnfljkknmgaa.Q
open Go.RowKit Go.Proofs.YtipjnfljkknmgaaW.PrintWords Go.Proofs.YtipjnfljkknmgaaW.PrintLast Go.Proofs.YtipjnfljkknmgaaW.PrintMore
attribute [local go_sem] max2_int min2_int max_two min_two max_three min_three max_four min_four   -- for this text's walks alone
set_option linter.unusedVariables false
set_option linter.unusedSimpArgs false

/-! ### scrivenerref07_MayFrags: function 11 -/
mutual
def scrivenerref07_MayFrags.j0 : Nat → Int → List (S25) → Bool → Option (Bool)
  | 0, _, _, _ => none
  | k + 1, x0, x1, x23 => if x23 = true then (some false) else (scrivenerref07_MayFrags.l0 k x0 x1 0)
def scrivenerref07_MayFrags.l0 : Nat → Int → List (S25) → Int → Option (Bool)
  | 0, _, _, _ => none
  | k + 1, x0, x1, x5 => if x5 < (x1.length : Int) then (if 0 ≤ x5 then (if ((rd_T25 x1 x5).f0) > 9 then (scrivenerref07_MayFrags.j2 k x0 x1 x5 ((rd_T25 x1 x5).f1) true) else (if x5 > 0 then (if 0 ≤ (wrap64 (x5 - 1)) then (if (wrap64 (x5 - 1)) < (x1.length : Int) then (if ((rd_T25 x1 x5).f0) ≤ ((rd_T25 x1 (wrap64 (x5 - 1))).f0) then (scrivenerref07_MayFrags.j2 k x0 x1 x5 ((rd_T25 x1 x5).f1) true) else (if (((rd_T25 x1 x5).f1).length : Int) < x0 then (scrivenerref07_MayFrags.j2 k x0 x1 x5 ((rd_T25 x1 x5).f1) true) else (scrivenerref07_MayFrags.j2 k x0 x1 x5 ((rd_T25 x1 x5).f1) (decide ((((rd_T25 x1 x5).f1).length : Int) > 5))))) else (none)) else (none)) else (if (((rd_T25 x1 x5).f1).length : Int) < x0 then (scrivenerref07_MayFrags.j2 k x0 x1 x5 ((rd_T25 x1 x5).f1) true) else (scrivenerref07_MayFrags.j2 k x0 x1 x5 ((rd_T25 x1 x5).f1) (decide ((((rd_T25 x1 x5).f1).length : Int) > 5)))))) else (none)) else (some true)
def scrivenerref07_MayFrags.j2 : Nat → Int → List (S25) → Int → List (S32) → Bool → Option (Bool)
  | 0, _, _, _, _, _ => none
  | k + 1, x0, x1, x5, x6, x69 => if x69 = true then (some false) else (scrivenerref07_MayFrags.l1 k x0 x1 x5 x6 0)
def scrivenerref07_MayFrags.l1 : Nat → Int → List (S25) → Int → List (S32) → Int → Option (Bool)
  | 0, _, _, _, _, _ => none
  | k + 1, x0, x1, x5, x6, x7 => if x7 < (x6.length : Int) then (if 0 ≤ x7 then ((scrivenerref07_MayPlace.f ((rd_T32 x6 x7).f0) ((rd_T32 x6 x7).f1)).bind fun t109 => (if t109 = true then (scrivenerref07_MayFrags.l2 k x0 x1 x5 x6 x7 0) else (some false))) else (none)) else (scrivenerref07_MayFrags.l0 k x0 x1 (wrap64 (x5 + 1)))
def scrivenerref07_MayFrags.l2 : Nat → Int → List (S25) → Int → List (S32) → Int → Int → Option (Bool)
  | 0, _, _, _, _, _, _ => none
  | k + 1, x0, x1, x5, x6, x7, x8 => if x8 < x7 then (if 0 ≤ x8 then (if x8 < (x6.length : Int) then (if 0 ≤ x7 then (if x7 < (x6.length : Int) then (if ((rd_T32 x6 x8).f0) = ((rd_T32 x6 x7).f0) then (some false) else (scrivenerref07_MayFrags.l2 k x0 x1 x5 x6 x7 (wrap64 (x8 + 1)))) else (none)) else (none)) else (none)) else (none)) else (scrivenerref07_MayFrags.l1 k x0 x1 x5 x6 (wrap64 (x7 + 1)))
end
def scrivenerref07_MayFrags.f (k : Nat) (a0 : Int) (l1 : List (S25)) : Option (Bool) := if (l1.length : Int) < 1 then (scrivenerref07_MayFrags.j0 k a0 l1 true) else (if (l1.length : Int) > 6 then (scrivenerref07_MayFrags.j0 k a0 l1 true) else (if 0 < (l1.length : Int) then (scrivenerref07_MayFrags.j0 k a0 l1 (((rd_T25 l1 0).f0) != 1)) else (none)))
theorem scrivenerref07_MayFrags.mono_l : ∀ k, (∀ y0 y1 y2, LeO (scrivenerref07_MayFrags.j0 k y0 y1 y2) (scrivenerref07_MayFrags.j0 (k + 1) y0 y1 y2)) ∧ (∀ y0 y1 y2, LeO (scrivenerref07_MayFrags.l0 k y0 y1 y2) (scrivenerref07_MayFrags.l0 (k + 1) y0 y1 y2)) ∧ (∀ y0 y1 y2 y3 y4, LeO (scrivenerref07_MayFrags.j2 k y0 y1 y2 y3 y4) (scrivenerref07_MayFrags.j2 (k + 1) y0 y1 y2 y3 y4)) ∧ (∀ y0 y1 y2 y3 y4, LeO (scrivenerref07_MayFrags.l1 k y0 y1 y2 y3 y4) (scrivenerref07_MayFrags.l1 (k + 1) y0 y1 y2 y3 y4)) ∧ (∀ y0 y1 y2 y3 y4 y5, LeO (scrivenerref07_MayFrags.l2 k y0 y1 y2 y3 y4 y5) (scrivenerref07_MayFrags.l2 (k + 1) y0 y1 y2 y3 y4 y5))
  | 0 => ⟨fun _ _ _ r h => by simp [scrivenerref07_MayFrags.j0] at h, fun _ _ _ r h => by simp [scrivenerref07_MayFrags.l0] at h, fun _ _ _ _ _ r h => by simp [scrivenerref07_MayFrags.j2] at h, fun _ _ _ _ _ r h => by simp [scrivenerref07_MayFrags.l1] at h, fun _ _ _ _ _ _ r h => by simp [scrivenerref07_MayFrags.l2] at h⟩
  | k + 1 => by
    obtain ⟨ih0, ih1, ih2, ih3, ih4⟩ := scrivenerref07_MayFrags.mono_l k
    refine ⟨?_, ?_, ?_, ?_, ?_⟩
    · intro y0 y1 y2
      unfold scrivenerref07_MayFrags.j0
      repeat' first
      | (with_reducible exact ih0 _ _ _)
      | (with_reducible exact ih1 _ _ _)
      | (with_reducible exact ih2 _ _ _ _ _)
      | (with_reducible exact ih3 _ _ _ _ _)
      | (with_reducible exact ih4 _ _ _ _ _ _)
      | (with_reducible exact LeO.refl _)
      | (with_reducible exact LeO.none _)
      | (with_reducible refine LeO.ite ?_ ?_)
      | (with_reducible refine LeO.bind ?_ (fun _ => ?_))
      | exact ih0 _ _ _
      | exact ih1 _ _ _
      | exact ih2 _ _ _ _ _
      | exact ih3 _ _ _ _ _
      | exact ih4 _ _ _ _ _ _
      | exact LeO.none _
      | refine LeO.ite ?_ ?_
      | refine LeO.bind ?_ (fun _ => ?_)
    · intro y0 y1 y2
      unfold scrivenerref07_MayFrags.l0
      repeat' first
      | (with_reducible exact ih0 _ _ _)
      | (with_reducible exact ih1 _ _ _)
      | (with_reducible exact ih2 _ _ _ _ _)
      | (with_reducible exact ih3 _ _ _ _ _)
      | (with_reducible exact ih4 _ _ _ _ _ _)
      | (with_reducible exact LeO.refl _)
      | (with_reducible exact LeO.none _)
      | (with_reducible refine LeO.ite ?_ ?_)
      | (with_reducible refine LeO.bind ?_ (fun _ => ?_))
      | exact ih0 _ _ _
      | exact ih1 _ _ _
      | exact ih2 _ _ _ _ _
      | exact ih3 _ _ _ _ _
      | exact ih4 _ _ _ _ _ _
      | exact LeO.none _
      | refine LeO.ite ?_ ?_
      | refine LeO.bind ?_ (fun _ => ?_)
    · intro y0 y1 y2 y3 y4
      unfold scrivenerref07_MayFrags.j2
      repeat' first
      | (with_reducible exact ih0 _ _ _)
      | (with_reducible exact ih1 _ _ _)
      | (with_reducible exact ih2 _ _ _ _ _)
      | (with_reducible exact ih3 _ _ _ _ _)
      | (with_reducible exact ih4 _ _ _ _ _ _)
      | (with_reducible exact LeO.refl _)
      | (with_reducible exact LeO.none _)
      | (with_reducible refine LeO.ite ?_ ?_)
      | (with_reducible refine LeO.bind ?_ (fun _ => ?_))
      | exact ih0 _ _ _
      | exact ih1 _ _ _
      | exact ih2 _ _ _ _ _
      | exact ih3 _ _ _ _ _
      | exact ih4 _ _ _ _ _ _
      | exact LeO.none _
      | refine LeO.ite ?_ ?_
      | refine LeO.bind ?_ (fun _ => ?_)
    · intro y0 y1 y2 y3 y4
      unfold scrivenerref07_MayFrags.l1
      repeat' first
      | (with_reducible exact ih0 _ _ _)
      | (with_reducible exact ih1 _ _ _)
      | (with_reducible exact ih2 _ _ _ _ _)
      | (with_reducible exact ih3 _ _ _ _ _)
      | (with_reducible exact ih4 _ _ _ _ _ _)
      | (with_reducible exact LeO.refl _)
      | (with_reducible exact LeO.none _)
      | (with_reducible refine LeO.ite ?_ ?_)
      | (with_reducible refine LeO.bind ?_ (fun _ => ?_))
      | exact ih0 _ _ _
      | exact ih1 _ _ _
      | exact ih2 _ _ _ _ _
      | exact ih3 _ _ _ _ _
      | exact ih4 _ _ _ _ _ _
      | exact LeO.none _
      | refine LeO.ite ?_ ?_
      | refine LeO.bind ?_ (fun _ => ?_)
    · intro y0 y1 y2 y3 y4 y5
      unfold scrivenerref07_MayFrags.l2
      repeat' first
      | (with_reducible exact ih0 _ _ _)
      | (with_reducible exact ih1 _ _ _)
      | (with_reducible exact ih2 _ _ _ _ _)
      | (with_reducible exact ih3 _ _ _ _ _)
      | (with_reducible exact ih4 _ _ _ _ _ _)
      | (with_reducible exact LeO.refl _)
      | (with_reducible exact LeO.none _)
      | (with_reducible refine LeO.ite ?_ ?_)
      | (with_reducible refine LeO.bind ?_ (fun _ => ?_))
      | exact ih0 _ _ _
      | exact ih1 _ _ _
      | exact ih2 _ _ _ _ _
      | exact ih3 _ _ _ _ _
      | exact ih4 _ _ _ _ _ _
      | exact LeO.none _
      | refine LeO.ite ?_ ?_
      | refine LeO.bind ?_ (fun _ => ?_)
theorem scrivenerref07_MayFrags.mono : ∀ a0 a1 k, LeO (scrivenerref07_MayFrags.f k a0 a1) (scrivenerref07_MayFrags.f (k + 1) a0 a1) := by
  intro a0 a1 k
  obtain ⟨ih0, ih1, ih2, ih3, ih4⟩ := scrivenerref07_MayFrags.mono_l k
  unfold scrivenerref07_MayFrags.f
  repeat' first
      | (with_reducible exact ih0 _ _ _)
      | (with_reducible exact ih1 _ _ _)
      | (with_reducible exact ih2 _ _ _ _ _)
      | (with_reducible exact ih3 _ _ _ _ _)
      | (with_reducible exact ih4 _ _ _ _ _ _)
      | (with_reducible exact LeO.refl _)
      | (with_reducible exact LeO.none _)
      | (with_reducible refine LeO.ite ?_ ?_)
      | (with_reducible refine LeO.bind ?_ (fun _ => ?_))
      | exact ih0 _ _ _
      | exact ih1 _ _ _
      | exact ih2 _ _ _ _ _
      | exact ih3 _ _ _ _ _
      | exact ih4 _ _ _ _ _ _
      | exact LeO.none _
      | refine LeO.ite ?_ ?_
      | refine LeO.bind ?_ (fun _ => ?_)
set_option maxHeartbeats 8000000 in
set_option maxRecDepth 100000 in
theorem scrivenerref07_MayFrags.calls (k : Nat) (a0 : Int) (A1 : Option Addr) (c1 : Nat) (l1 : List (S25)) (r : Bool) (w : World) (hr1 : Kd.C k25 w A1 l1.length l1) (hc1 : l1.length ≤ c1) (h : scrivenerref07_MayFrags.f k a0 l1 = some r) :
    Calls Try.prog 11 #[.int .i64 a0, .slice A1 l1.length c1] w fun e w' => e = .returned (.bool r) ∧ Below w.heap.size w w' := by
  have hu32 := Try.underlying32
  have HR1 := Aside0.mk hr1
  have HC1 := Aside0.mk hc1
  clear hr1 hc1
  have HB := Aside0.mk (Below.refl w.heap.size w)
  have H : (if (l1.length : Int) < 1 then (scrivenerref07_MayFrags.j0 k a0 l1 true) else (if (l1.length : Int) > 6 then (scrivenerref07_MayFrags.j0 k a0 l1 true) else (if 0 < (l1.length : Int) then (scrivenerref07_MayFrags.j0 k a0 l1 (((rd_T25 l1 0).f0) != 1)) else (none)))) = some r := h
  clear h
  have HC3 := Aside0.mk H
  clear H
  go_enter Try.func11, Try.ntmps11
  go_upto_region 1 with (fail)
  repeat (go_quiet (fail); go_upto_region 1 with (fail))
  go_cut [23] (fun v23 wc => ∃ (kq : Nat) (x23_2 : Bool), v23 = .bool x23_2 ∧ Aside0 (scrivenerref07_MayFrags.j0 kq a0 l1 x23_2 = some r) ∧ Aside0 (kq ≤ k) ∧ Aside0 (Below w.heap.size w wc))
  case first =>
    have H := HC3.out
    clear HC3
    by_cases c4 : (l1.length : Int) < 1
    · rw [if_pos c4] at H
      have c4b0 : decide ((l1.length : Int) < 1) = true := decide_eq_true c4
      have c4b1 : decide (l1.length < 1) = true := decide_eq_true (by omega)
      clear c4
      (first | rw [c4b0] | (simp only [i64_w, i32_w]; rw [c4b0]) | skip)
      have H' := Aside0.mk H
      clear H
      go_wp2
      repeat (go_quiet (fail); try go_wp2)
      go_meet
      case rel => exact ⟨_, (true), (by first | rfl | (simp; done) | (simp [*]; done)), H', ⟨by first | omega | exact Nat.le_refl _⟩, ⟨by repeat (first | (with_reducible first | exact HB.out | apply below_alloc | apply pw_below_drewN | apply below_drew1) | exact HB.out)⟩⟩
    · rw [if_neg c4] at H
      have c4b0 : decide ((l1.length : Int) < 1) = false := decide_eq_false c4
      have c4b1 : decide (l1.length < 1) = false := decide_eq_false (by omega)
      clear c4
      (first | rw [c4b0] | (simp only [i64_w, i32_w]; rw [c4b0]) | skip)
      by_cases c5 : (l1.length : Int) > 6
      · rw [if_pos c5] at H
        have c5b0 : decide (6 < (l1.length : Int)) = true := decide_eq_true c5
        have c5b1 : decide (6 < l1.length) = true := decide_eq_true (by omega)
        clear c5
        have H' := Aside0.mk H
        clear H
        go_wp2
        repeat (go_quiet (fail); try go_wp2)
        go_meet
        case rel => exact ⟨_, (true), (by first | rfl | (simp; done) | (simp [*]; done)), H', ⟨by first | omega | exact Nat.le_refl _⟩, ⟨by repeat (first | (with_reducible first | exact HB.out | apply below_alloc | apply pw_below_drewN | apply below_drew1) | exact HB.out)⟩⟩
      · rw [if_neg c5] at H
        have c5b0 : decide (6 < (l1.length : Int)) = false := decide_eq_false c5
        have c5b1 : decide (6 < l1.length) = false := decide_eq_false (by omega)
        clear c5
        by_cases c6 : 0 < (l1.length : Int)
        · rw [if_pos c6] at H
          have c6b0 : decide (0 < (l1.length : Int)) = true := decide_eq_true c6
          have c6b1 : decide (0 < l1.length) = true := decide_eq_true (by omega)
          clear c6
          have H' := Aside0.mk H
          clear H
          have p103 : 0 ≤ (0 : Int) := (by omega)
          have q103 : 0 < (l1.length : Int) := of_decide_eq_true (by first | (with_reducible assumption) | assumption)
          obtain ⟨ad103, A103_1, c103_1, e103, hx103_0, hx103_1, hl103_1, hi103_1⟩ := at_T25 HR1.out 0 p103 q103
          cases e103
          have qi103 : (0 < l1.length) = True := eq_true (by omega)
          (try rw [show ((0 : Int)).toNat = 0 from rfl] at hx103_0)
          (try rw [show 0 * 2 = 0 from rfl] at hx103_0)
          (try rw [Addr.add_zero'] at hx103_0)
          (try rw [show ((0 : Int)).toNat = 0 from rfl] at hx103_1)
          (try rw [show 0 * 2 = 0 from rfl] at hx103_1)
          (try rw [Addr.add_zero'] at hx103_1)
          replace hx103_0 := (HB.out.cell (World.block_lt_of_cell? w _ hx103_0)).trans hx103_0
          replace hx103_1 := (HB.out.cell (World.block_lt_of_cell? w _ hx103_1)).trans hx103_1
          have HR103_1 := Aside0.mk hi103_1
          have HC103_1 := Aside0.mk hl103_1
          clear hi103_1 hl103_1
          replace p103 := eq_true p103
          replace q103 := eq_true q103
          go_wp2
          repeat (go_quiet (fail); try go_wp2)
          go_meet
          case rel => exact ⟨_, ((((rd_T25 l1 0).f0) != 1)), (by first | rfl | (simp; done) | (simp [*]; done)), H', ⟨by first | omega | exact Nat.le_refl _⟩, ⟨by repeat (first | (with_reducible first | exact HB.out | apply below_alloc | apply pw_below_drewN | apply below_drew1) | exact HB.out)⟩⟩
        · rw [if_neg c6] at H
          exact absurd H (by simp)
  case rest =>
    clear HC3
    try clear c1
    try clear p1
    try clear q1
    try clear hx1
    try clear qi1
    try clear p2
    try clear c4
    try clear c4b0
    try clear c4b1
    try clear c5
    try clear c5b0
    try clear c5b1
    try clear c6
    try clear c6b0
    try clear c6b1
    try clear hx103_0
    try clear hx103_1
    try clear p103
    try clear q103
    obtain ⟨kq, x23_2, rfl, HA, HJ2, HB⟩ := hcut
    cases kq with
    | zero => exact absurd HA.out (by simp [scrivenerref07_MayFrags.j0])
    | succ kj2 =>
      have H := HA.out
      clear HA
      simp only [scrivenerref07_MayFrags.j0] at H
      by_cases c7 : x23_2 = true
      · subst c7
        have H1 : (some false) = some r := by rw [if_pos rfl] at H; exact H
        clear H
        have H := H1
        clear H1
        obtain rfl := Option.some.inj H
        go_wp2
        repeat (go_quiet (fail); try go_wp2)
        go_ret
        exact ⟨by first | rfl | (simp [errW_none, errW_some] <;> rfl) | (simp [*, errW_none, errW_some] <;> rfl), by repeat (first | (with_reducible first | exact HB.out | apply below_alloc | apply pw_below_drewN | apply below_drew1) | exact HB.out)⟩
      · replace c7 := Bool.eq_false_iff.mpr c7
        subst c7
        have H1 : (scrivenerref07_MayFrags.l0 kj2 a0 l1 0) = some r := by rw [if_neg (show ¬ (false = true) by decide)] at H; exact H
        clear H
        have H := H1
        clear H1
        have H' := Aside0.mk H
        clear H
        go_wp2
        repeat (go_quiet (fail); try go_wp2)
        go_loopg [5] kj2 (fun kq v5 w' => ∃ (x5_2 : Int), v5 = .int .i64 x5_2 ∧ Aside0 (scrivenerref07_MayFrags.l0 kq a0 l1 x5_2 = some r) ∧ Aside0 (kq ≤ kj2) ∧ Aside0 (Below w.heap.size w w'))
        case atStart => exact ⟨(0), (by first | rfl | (simp; done) | (simp [*]; done)), H', ⟨Nat.le_refl _⟩, ⟨by repeat (first | (with_reducible first | exact HB.out | apply below_alloc | apply pw_below_drewN | apply below_drew1) | exact HB.out)⟩⟩
        case round =>
          clear H'
          try clear c1
          try clear p1
          try clear q1
          try clear hx1
          try clear qi1
          try clear p2
          try clear c4
          try clear c4b0
          try clear c4b1
          try clear c5
          try clear c5b0
          try clear c5b1
          try clear c6
          try clear c6b0
          try clear c6b1
          try clear c7
          try clear hx103_0
          try clear hx103_1
          try clear p1
          try clear p103
          try clear p2
          try clear q1
          try clear q103
          obtain ⟨x5_2, rfl, HA, HK2, HB⟩ := hrel
          cases gk with
          | zero => exact absurd HA.out (by simp [scrivenerref07_MayFrags.l0])
          | succ k2 =>
            have H := HA.out
            clear HA
            simp only [scrivenerref07_MayFrags.l0] at H
            by_cases c8 : x5_2 < (l1.length : Int)
            · rw [if_pos c8] at H
              have c8b0 : decide (x5_2 < (l1.length : Int)) = true := decide_eq_true c8
              clear c8
              by_cases c9 : 0 ≤ x5_2
              · rw [if_pos c9] at H
                have c9b0 : decide (0 ≤ x5_2) = true := decide_eq_true c9
                clear c9
                have HC10 := Aside0.mk H
                clear H
                have p104 : 0 ≤ (x5_2 : Int) := of_decide_eq_true (by first | (with_reducible assumption) | assumption)
                have q104 : x5_2 < (l1.length : Int) := of_decide_eq_true (by first | (with_reducible assumption) | assumption)
                obtain ⟨ad104, A104_1, c104_1, e104, hx104_0, hx104_1, hl104_1, hi104_1⟩ := at_T25 HR1.out x5_2 p104 q104
                cases e104
                replace hx104_0 := (HB.out.cell (World.block_lt_of_cell? w _ hx104_0)).trans hx104_0
                replace hx104_1 := (HB.out.cell (World.block_lt_of_cell? w _ hx104_1)).trans hx104_1
                have HR104_1 := Aside0.mk hi104_1
                have HC104_1 := Aside0.mk hl104_1
                clear hi104_1 hl104_1
                replace p104 := eq_true p104
                replace q104 := eq_true q104
                go_upto_region 7 with (fail)
                repeat (go_quiet (fail); go_upto_region 7 with (fail))
                go_cut [69] (fun v69 wc => ∃ (kq : Nat) (x69_9 : Bool), v69 = .bool x69_9 ∧ Aside0 (scrivenerref07_MayFrags.j2 kq a0 l1 x5_2 ((rd_T25 l1 x5_2).f1) x69_9 = some r) ∧ Aside0 (kq ≤ k2) ∧ Aside0 (Below w.heap.size w wc))
                case first =>
                  have H := HC10.out
                  clear HC10
                  by_cases c11 : ((rd_T25 l1 x5_2).f0) > 9
                  · rw [if_pos c11] at H
                    have c11b0 : decide (9 < ((rd_T25 l1 x5_2).f0)) = true := decide_eq_true c11
                    clear c11
                    (first | rw [c11b0] | (simp only [i64_w, i32_w]; rw [c11b0]) | skip)
                    have H' := Aside0.mk H
                    clear H
                    have p105 : 0 ≤ (x5_2 : Int) := of_decide_eq_true (by first | (with_reducible assumption) | assumption)
                    have q105 : x5_2 < (l1.length : Int) := of_decide_eq_true (by first | (with_reducible assumption) | assumption)
                    obtain ⟨ad105, A105_1, c105_1, e105, hx105_0, hx105_1, hl105_1, hi105_1⟩ := at_T25 HR1.out x5_2 p105 q105
                    obtain rfl : ad104 = ad105 := (by injection e105)
                    replace hx105_0 := (HB.out.cell (World.block_lt_of_cell? w _ hx105_0)).trans hx105_0
                    replace hx105_1 := (HB.out.cell (World.block_lt_of_cell? w _ hx105_1)).trans hx105_1
                    have HR105_1 := Aside0.mk hi105_1
                    have HC105_1 := Aside0.mk hl105_1
                    clear hi105_1 hl105_1
                    replace p105 := eq_true p105
                    replace q105 := eq_true q105
                    go_wp2
                    repeat (go_quiet (fail); try go_wp2)
                    go_meet
                    case rel => exact ⟨_, (true), (by first | rfl | (simp; done) | (simp [*]; done)), H', ⟨by have := HJ2.out; have := HK2.out; first | omega | exact Nat.le_refl _⟩, ⟨by repeat (first | (with_reducible first | exact HB.out | apply below_alloc | apply pw_below_drewN | apply below_drew1) | exact HB.out)⟩⟩
                  · rw [if_neg c11] at H
                    have c11b0 : decide (9 < ((rd_T25 l1 x5_2).f0)) = false := decide_eq_false c11
                    clear c11
                    (first | rw [c11b0] | (simp only [i64_w, i32_w]; rw [c11b0]) | skip)
                    by_cases c12 : x5_2 > 0
                    · rw [if_pos c12] at H
                      have c12b0 : decide (0 < x5_2) = true := decide_eq_true c12
                      clear c12
                      obtain ⟨ji13, hji13⟩ : ∃ j_ : Int, (wrap64 (x5_2 - 1)) = j_ := ⟨_, rfl⟩
                      replace H : (if 0 ≤ (ji13) then (if (ji13) < (l1.length : Int) then (if ((rd_T25 l1 x5_2).f0) ≤ ((rd_T25 l1 (ji13)).f0) then (scrivenerref07_MayFrags.j2 k2 a0 l1 x5_2 ((rd_T25 l1 x5_2).f1) true) else (if (((rd_T25 l1 x5_2).f1).length : Int) < a0 then (scrivenerref07_MayFrags.j2 k2 a0 l1 x5_2 ((rd_T25 l1 x5_2).f1) true) else (scrivenerref07_MayFrags.j2 k2 a0 l1 x5_2 ((rd_T25 l1 x5_2).f1) (decide ((((rd_T25 l1 x5_2).f1).length : Int) > 5))))) else (none)) else (none)) = some r := by first | (rw [hji13] at H; exact H) | (simp only [hji13] at H ⊢; exact H)
                      have hji13w : (IntKind.i64.wrap (x5_2 - 1)) = ji13 := (i64_w _).trans hji13
                      by_cases c14 : 0 ≤ (ji13)
                      · rw [if_pos c14] at H
                        have c14b0 : decide (0 ≤ (ji13)) = true := decide_eq_true c14
                        clear c14
                        by_cases c15 : (ji13) < (l1.length : Int)
                        · rw [if_pos c15] at H
                          have c15b0 : decide ((ji13) < (l1.length : Int)) = true := decide_eq_true c15
                          clear c15
                          by_cases c16 : ((rd_T25 l1 x5_2).f0) ≤ ((rd_T25 l1 (ji13)).f0)
                          · rw [if_pos c16] at H
                            have c16b0 : decide (((rd_T25 l1 x5_2).f0) ≤ ((rd_T25 l1 (ji13)).f0)) = true := decide_eq_true c16
                            clear c16
                            have H' := Aside0.mk H
                            clear H
                            have p105 : 0 ≤ (x5_2 : Int) := of_decide_eq_true (by first | (with_reducible assumption) | assumption)
                            have q105 : x5_2 < (l1.length : Int) := of_decide_eq_true (by first | (with_reducible assumption) | assumption)
                            obtain ⟨ad105, A105_1, c105_1, e105, hx105_0, hx105_1, hl105_1, hi105_1⟩ := at_T25 HR1.out x5_2 p105 q105
                            obtain rfl : ad104 = ad105 := (by injection e105)
                            replace hx105_0 := (HB.out.cell (World.block_lt_of_cell? w _ hx105_0)).trans hx105_0
                            replace hx105_1 := (HB.out.cell (World.block_lt_of_cell? w _ hx105_1)).trans hx105_1
                            have HR105_1 := Aside0.mk hi105_1
                            have HC105_1 := Aside0.mk hl105_1
                            clear hi105_1 hl105_1
                            replace p105 := eq_true p105
                            replace q105 := eq_true q105
                            have p106 : 0 ≤ (x5_2 : Int) := of_decide_eq_true (by first | (with_reducible assumption) | assumption)
                            have q106 : x5_2 < (l1.length : Int) := of_decide_eq_true (by first | (with_reducible assumption) | assumption)
                            obtain ⟨ad106, A106_1, c106_1, e106, hx106_0, hx106_1, hl106_1, hi106_1⟩ := at_T25 HR1.out x5_2 p106 q106
                            obtain rfl : ad104 = ad106 := (by injection e106)
                            replace hx106_0 := (HB.out.cell (World.block_lt_of_cell? w _ hx106_0)).trans hx106_0
                            replace hx106_1 := (HB.out.cell (World.block_lt_of_cell? w _ hx106_1)).trans hx106_1
                            have HR106_1 := Aside0.mk hi106_1
                            have HC106_1 := Aside0.mk hl106_1
                            clear hi106_1 hl106_1
                            replace p106 := eq_true p106
                            replace q106 := eq_true q106
                            have ea_ := Option.some.inj (hx105_1.symm.trans hx106_1)
                            injection ea_ with ea_ en_ ec_
                            subst ea_
                            subst ec_
                            clear en_
                            have p107 : 0 ≤ ((ji13) : Int) := of_decide_eq_true (by first | (with_reducible assumption) | assumption)
                            have q107 : (ji13) < (l1.length : Int) := of_decide_eq_true (by first | (with_reducible assumption) | assumption)
                            obtain ⟨ad107, A107_1, c107_1, e107, hx107_0, hx107_1, hl107_1, hi107_1⟩ := at_T25 HR1.out (ji13) p107 q107
                            obtain rfl : ad104 = ad107 := (by injection e107)
                            replace hx107_0 := (HB.out.cell (World.block_lt_of_cell? w _ hx107_0)).trans hx107_0
                            replace hx107_1 := (HB.out.cell (World.block_lt_of_cell? w _ hx107_1)).trans hx107_1
                            have HR107_1 := Aside0.mk hi107_1
                            have HC107_1 := Aside0.mk hl107_1
                            clear hi107_1 hl107_1
                            replace p107 := eq_true p107
                            replace q107 := eq_true q107
                            go_wp2
                            repeat (go_quiet (fail); try go_wp2)
                            go_meet
                            case rel => exact ⟨_, (true), (by first | rfl | (simp; done) | (simp [*]; done)), H', ⟨by have := HJ2.out; have := HK2.out; first | omega | exact Nat.le_refl _⟩, ⟨by repeat (first | (with_reducible first | exact HB.out | apply below_alloc | apply pw_below_drewN | apply below_drew1) | exact HB.out)⟩⟩
                          · rw [if_neg c16] at H
                            have c16b0 : decide (((rd_T25 l1 x5_2).f0) ≤ ((rd_T25 l1 (ji13)).f0)) = false := decide_eq_false c16
                            clear c16
                            by_cases c17 : (((rd_T25 l1 x5_2).f1).length : Int) < a0
                            · rw [if_pos c17] at H
                              have c17b0 : decide ((((rd_T25 l1 x5_2).f1).length : Int) < a0) = true := decide_eq_true c17
                              clear c17
                              have H' := Aside0.mk H
                              clear H
                              have p105 : 0 ≤ (x5_2 : Int) := of_decide_eq_true (by first | (with_reducible assumption) | assumption)
                              have q105 : x5_2 < (l1.length : Int) := of_decide_eq_true (by first | (with_reducible assumption) | assumption)
                              obtain ⟨ad105, A105_1, c105_1, e105, hx105_0, hx105_1, hl105_1, hi105_1⟩ := at_T25 HR1.out x5_2 p105 q105
                              obtain rfl : ad104 = ad105 := (by injection e105)
                              replace hx105_0 := (HB.out.cell (World.block_lt_of_cell? w _ hx105_0)).trans hx105_0
                              replace hx105_1 := (HB.out.cell (World.block_lt_of_cell? w _ hx105_1)).trans hx105_1
                              have HR105_1 := Aside0.mk hi105_1
                              have HC105_1 := Aside0.mk hl105_1
                              clear hi105_1 hl105_1
                              replace p105 := eq_true p105
                              replace q105 := eq_true q105
                              have p106 : 0 ≤ (x5_2 : Int) := of_decide_eq_true (by first | (with_reducible assumption) | assumption)
                              have q106 : x5_2 < (l1.length : Int) := of_decide_eq_true (by first | (with_reducible assumption) | assumption)
                              obtain ⟨ad106, A106_1, c106_1, e106, hx106_0, hx106_1, hl106_1, hi106_1⟩ := at_T25 HR1.out x5_2 p106 q106
                              obtain rfl : ad104 = ad106 := (by injection e106)
                              replace hx106_0 := (HB.out.cell (World.block_lt_of_cell? w _ hx106_0)).trans hx106_0
                              replace hx106_1 := (HB.out.cell (World.block_lt_of_cell? w _ hx106_1)).trans hx106_1
                              have HR106_1 := Aside0.mk hi106_1
                              have HC106_1 := Aside0.mk hl106_1
                              clear hi106_1 hl106_1
                              replace p106 := eq_true p106
                              replace q106 := eq_true q106
                              have ea_ := Option.some.inj (hx105_1.symm.trans hx106_1)
                              injection ea_ with ea_ en_ ec_
                              subst ea_
                              subst ec_
                              clear en_
                              have p107 : 0 ≤ ((ji13) : Int) := of_decide_eq_true (by first | (with_reducible assumption) | assumption)
                              have q107 : (ji13) < (l1.length : Int) := of_decide_eq_true (by first | (with_reducible assumption) | assumption)
                              obtain ⟨ad107, A107_1, c107_1, e107, hx107_0, hx107_1, hl107_1, hi107_1⟩ := at_T25 HR1.out (ji13) p107 q107
                              obtain rfl : ad104 = ad107 := (by injection e107)
                              replace hx107_0 := (HB.out.cell (World.block_lt_of_cell? w _ hx107_0)).trans hx107_0
                              replace hx107_1 := (HB.out.cell (World.block_lt_of_cell? w _ hx107_1)).trans hx107_1
                              have HR107_1 := Aside0.mk hi107_1
                              have HC107_1 := Aside0.mk hl107_1
                              clear hi107_1 hl107_1
                              replace p107 := eq_true p107
                              replace q107 := eq_true q107
                              go_wp2
                              repeat (go_quiet (fail); try go_wp2)
                              go_meet
                              case rel => exact ⟨_, (true), (by first | rfl | (simp; done) | (simp [*]; done)), H', ⟨by have := HJ2.out; have := HK2.out; first | omega | exact Nat.le_refl _⟩, ⟨by repeat (first | (with_reducible first | exact HB.out | apply below_alloc | apply pw_below_drewN | apply below_drew1) | exact HB.out)⟩⟩
                            · rw [if_neg c17] at H
                              have c17b0 : decide ((((rd_T25 l1 x5_2).f1).length : Int) < a0) = false := decide_eq_false c17
                              clear c17
                              have H' := Aside0.mk H
                              clear H
                              have p105 : 0 ≤ (x5_2 : Int) := of_decide_eq_true (by first | (with_reducible assumption) | assumption)
                              have q105 : x5_2 < (l1.length : Int) := of_decide_eq_true (by first | (with_reducible assumption) | assumption)
                              obtain ⟨ad105, A105_1, c105_1, e105, hx105_0, hx105_1, hl105_1, hi105_1⟩ := at_T25 HR1.out x5_2 p105 q105
                              obtain rfl : ad104 = ad105 := (by injection e105)
                              replace hx105_0 := (HB.out.cell (World.block_lt_of_cell? w _ hx105_0)).trans hx105_0
                              replace hx105_1 := (HB.out.cell (World.block_lt_of_cell? w _ hx105_1)).trans hx105_1
                              have HR105_1 := Aside0.mk hi105_1
                              have HC105_1 := Aside0.mk hl105_1
                              clear hi105_1 hl105_1
                              replace p105 := eq_true p105
                              replace q105 := eq_true q105
                              have p106 : 0 ≤ (x5_2 : Int) := of_decide_eq_true (by first | (with_reducible assumption) | assumption)
                              have q106 : x5_2 < (l1.length : Int) := of_decide_eq_true (by first | (with_reducible assumption) | assumption)
                              obtain ⟨ad106, A106_1, c106_1, e106, hx106_0, hx106_1, hl106_1, hi106_1⟩ := at_T25 HR1.out x5_2 p106 q106
                              obtain rfl : ad104 = ad106 := (by injection e106)
                              replace hx106_0 := (HB.out.cell (World.block_lt_of_cell? w _ hx106_0)).trans hx106_0
                              replace hx106_1 := (HB.out.cell (World.block_lt_of_cell? w _ hx106_1)).trans hx106_1
                              have HR106_1 := Aside0.mk hi106_1
                              have HC106_1 := Aside0.mk hl106_1
                              clear hi106_1 hl106_1
                              replace p106 := eq_true p106
                              replace q106 := eq_true q106
                              have ea_ := Option.some.inj (hx105_1.symm.trans hx106_1)
                              injection ea_ with ea_ en_ ec_
                              subst ea_
                              subst ec_
                              clear en_
                              have p107 : 0 ≤ ((ji13) : Int) := of_decide_eq_true (by first | (with_reducible assumption) | assumption)
                              have q107 : (ji13) < (l1.length : Int) := of_decide_eq_true (by first | (with_reducible assumption) | assumption)
                              obtain ⟨ad107, A107_1, c107_1, e107, hx107_0, hx107_1, hl107_1, hi107_1⟩ := at_T25 HR1.out (ji13) p107 q107
                              obtain rfl : ad104 = ad107 := (by injection e107)
                              replace hx107_0 := (HB.out.cell (World.block_lt_of_cell? w _ hx107_0)).trans hx107_0
                              replace hx107_1 := (HB.out.cell (World.block_lt_of_cell? w _ hx107_1)).trans hx107_1
                              have HR107_1 := Aside0.mk hi107_1
                              have HC107_1 := Aside0.mk hl107_1
                              clear hi107_1 hl107_1
                              replace p107 := eq_true p107
                              replace q107 := eq_true q107
                              go_wp2
                              repeat (go_quiet (fail); try go_wp2)
                              go_meet
                              case rel => exact ⟨_, (decide ((((rd_T25 l1 x5_2).f1).length : Int) > 5)), (by first | rfl | (simp; done) | (simp [*]; done)), H', ⟨by have := HJ2.out; have := HK2.out; first | omega | exact Nat.le_refl _⟩, ⟨by repeat (first | (with_reducible first | exact HB.out | apply below_alloc | apply pw_below_drewN | apply below_drew1) | exact HB.out)⟩⟩
                        · rw [if_neg c15] at H
                          exact absurd H (by simp)
                      · rw [if_neg c14] at H
                        exact absurd H (by simp)
                    · rw [if_neg c12] at H
                      have c12b0 : decide (0 < x5_2) = false := decide_eq_false c12
                      clear c12
                      by_cases c18 : (((rd_T25 l1 x5_2).f1).length : Int) < a0
                      · rw [if_pos c18] at H
                        have c18b0 : decide ((((rd_T25 l1 x5_2).f1).length : Int) < a0) = true := decide_eq_true c18
                        clear c18
                        have H' := Aside0.mk H
                        clear H
                        have p105 : 0 ≤ (x5_2 : Int) := of_decide_eq_true (by first | (with_reducible assumption) | assumption)
                        have q105 : x5_2 < (l1.length : Int) := of_decide_eq_true (by first | (with_reducible assumption) | assumption)
                        obtain ⟨ad105, A105_1, c105_1, e105, hx105_0, hx105_1, hl105_1, hi105_1⟩ := at_T25 HR1.out x5_2 p105 q105
                        obtain rfl : ad104 = ad105 := (by injection e105)
                        replace hx105_0 := (HB.out.cell (World.block_lt_of_cell? w _ hx105_0)).trans hx105_0
                        replace hx105_1 := (HB.out.cell (World.block_lt_of_cell? w _ hx105_1)).trans hx105_1
                        have HR105_1 := Aside0.mk hi105_1
                        have HC105_1 := Aside0.mk hl105_1
                        clear hi105_1 hl105_1
                        replace p105 := eq_true p105
                        replace q105 := eq_true q105
                        go_wp2
                        repeat (go_quiet (fail); try go_wp2)
                        go_meet
                        case rel => exact ⟨_, (true), (by first | rfl | (simp; done) | (simp [*]; done)), H', ⟨by have := HJ2.out; have := HK2.out; first | omega | exact Nat.le_refl _⟩, ⟨by repeat (first | (with_reducible first | exact HB.out | apply below_alloc | apply pw_below_drewN | apply below_drew1) | exact HB.out)⟩⟩
                      · rw [if_neg c18] at H
                        have c18b0 : decide ((((rd_T25 l1 x5_2).f1).length : Int) < a0) = false := decide_eq_false c18
                        clear c18
                        have H' := Aside0.mk H
                        clear H
                        have p105 : 0 ≤ (x5_2 : Int) := of_decide_eq_true (by first | (with_reducible assumption) | assumption)
                        have q105 : x5_2 < (l1.length : Int) := of_decide_eq_true (by first | (with_reducible assumption) | assumption)
                        obtain ⟨ad105, A105_1, c105_1, e105, hx105_0, hx105_1, hl105_1, hi105_1⟩ := at_T25 HR1.out x5_2 p105 q105
                        obtain rfl : ad104 = ad105 := (by injection e105)
                        replace hx105_0 := (HB.out.cell (World.block_lt_of_cell? w _ hx105_0)).trans hx105_0
                        replace hx105_1 := (HB.out.cell (World.block_lt_of_cell? w _ hx105_1)).trans hx105_1
                        have HR105_1 := Aside0.mk hi105_1
                        have HC105_1 := Aside0.mk hl105_1
                        clear hi105_1 hl105_1
                        replace p105 := eq_true p105
                        replace q105 := eq_true q105
                        go_wp2
                        repeat (go_quiet (fail); try go_wp2)
                        go_meet
                        case rel => exact ⟨_, (decide ((((rd_T25 l1 x5_2).f1).length : Int) > 5)), (by first | rfl | (simp; done) | (simp [*]; done)), H', ⟨by have := HJ2.out; have := HK2.out; first | omega | exact Nat.le_refl _⟩, ⟨by repeat (first | (with_reducible first | exact HB.out | apply below_alloc | apply pw_below_drewN | apply below_drew1) | exact HB.out)⟩⟩
                case rest =>
                  clear HC10
                  try clear c1
                  try clear p1
                  try clear q1
                  try clear hx1
                  try clear qi1
                  try clear p2
                  try clear c4
                  try clear c4b0
                  try clear c4b1
                  try clear c5
                  try clear c5b0
                  try clear c5b1
                  try clear c6
                  try clear c6b0
                  try clear c6b1
                  try clear p6
                  try clear c7
                  try clear c8
                  try clear c8b0
                  try clear c9
                  try clear c9b0
                  try clear c10
                  try clear p10
                  try clear q10
                  try clear hx10
                  try clear qi10
                  try clear c11
                  try clear c11b0
                  try clear c12
                  try clear c12b0
                  try clear c14
                  try clear c14b0
                  try clear c15
                  try clear c15b0
                  try clear c16
                  try clear c16b0
                  try clear c17
                  try clear c17b0
                  try clear c18
                  try clear c18b0
                  try clear hx103_0
                  try clear hx103_1
                  try clear hx104_0
                  try clear hx104_1
                  try clear hx105_0
                  try clear hx105_1
                  try clear hx106_0
                  try clear hx106_1
                  try clear hx107_0
                  try clear hx107_1
                  try clear p1
                  try clear p103
                  try clear p104
                  try clear p105
                  try clear p106
                  try clear p107
                  try clear p2
                  try clear q1
                  try clear q103
                  try clear q104
                  try clear q105
                  try clear q106
                  try clear q107
                  obtain ⟨kq, x69_9, rfl, HA, HJ9, HB⟩ := hcut
                  cases kq with
                  | zero => exact absurd HA.out (by simp [scrivenerref07_MayFrags.j2])
                  | succ kj9 =>
                    have H := HA.out
                    clear HA
                    simp only [scrivenerref07_MayFrags.j2] at H
                    by_cases c19 : x69_9 = true
                    · subst c19
                      have H1 : (some false) = some r := by rw [if_pos rfl] at H; exact H
                      clear H
                      have H := H1
                      clear H1
                      obtain rfl := Option.some.inj H
                      go_wp2
                      repeat (go_quiet (fail); try go_wp2)
                      go_ret
                      exact ⟨by first | rfl | (simp [errW_none, errW_some] <;> rfl) | (simp [*, errW_none, errW_some] <;> rfl), by repeat (first | (with_reducible first | exact HB.out | apply below_alloc | apply pw_below_drewN | apply below_drew1) | exact HB.out)⟩
                    · replace c19 := Bool.eq_false_iff.mpr c19
                      subst c19
                      have H1 : (scrivenerref07_MayFrags.l1 kj9 a0 l1 x5_2 ((rd_T25 l1 x5_2).f1) 0) = some r := by rw [if_neg (show ¬ (false = true) by decide)] at H; exact H
                      clear H
                      have H := H1
                      clear H1
                      have H' := Aside0.mk H
                      clear H
                      go_wp2
                      repeat (go_quiet (fail); try go_wp2)
                      go_loopg [7] kj9 (fun kq v7 w' => ∃ (x7_4 : Int), v7 = .int .i64 x7_4 ∧ Aside0 (scrivenerref07_MayFrags.l1 kq a0 l1 x5_2 ((rd_T25 l1 x5_2).f1) x7_4 = some r) ∧ Aside0 (kq ≤ kj9) ∧ Aside0 (Below w.heap.size w w'))
                      case atStart => exact ⟨(0), (by first | rfl | (simp; done) | (simp [*]; done)), H', ⟨Nat.le_refl _⟩, ⟨by repeat (first | (with_reducible first | exact HB.out | apply below_alloc | apply pw_below_drewN | apply below_drew1) | exact HB.out)⟩⟩
                      case round =>
                        clear H'
                        try clear c1
                        try clear p1
                        try clear q1
                        try clear hx1
                        try clear qi1
                        try clear p2
                        try clear c4
                        try clear c4b0
                        try clear c4b1
                        try clear c5
                        try clear c5b0
                        try clear c5b1
                        try clear c6
                        try clear c6b0
                        try clear c6b1
                        try clear p6
                        try clear c7
                        try clear c8
                        try clear c8b0
                        try clear c9
                        try clear c9b0
                        try clear c10
                        try clear p10
                        try clear q10
                        try clear hx10
                        try clear qi10
                        try clear c11
                        try clear c11b0
                        try clear c12
                        try clear c12b0
                        try clear c14
                        try clear c14b0
                        try clear c15
                        try clear c15b0
                        try clear c16
                        try clear c16b0
                        try clear c17
                        try clear c17b0
                        try clear c18
                        try clear c18b0
                        try clear c19
                        try clear hx103_0
                        try clear hx103_1
                        try clear hx104_0
                        try clear hx104_1
                        try clear hx105_0
                        try clear hx105_1
                        try clear hx106_0
                        try clear hx106_1
                        try clear hx107_0
                        try clear hx107_1
                        try clear p1
                        try clear p10
                        try clear p103
                        try clear p104
                        try clear p105
                        try clear p106
                        try clear p107
                        try clear p2
                        try clear p6
                        try clear q1
                        try clear q10
                        try clear q103
                        try clear q104
                        try clear q105
                        try clear q106
                        try clear q107
                        obtain ⟨x7_4, rfl, HA, HK4, HB⟩ := hrel
                        cases gk with
                        | zero => exact absurd HA.out (by simp [scrivenerref07_MayFrags.l1])
                        | succ k4 =>
                          have H := HA.out
                          clear HA
                          simp only [scrivenerref07_MayFrags.l1] at H
                          by_cases c20 : x7_4 < (((rd_T25 l1 x5_2).f1).length : Int)
                          · rw [if_pos c20] at H
                            have c20b0 : decide (x7_4 < (((rd_T25 l1 x5_2).f1).length : Int)) = true := decide_eq_true c20
                            clear c20
                            by_cases c21 : 0 ≤ x7_4
                            · rw [if_pos c21] at H
                              have c21b0 : decide (0 ≤ x7_4) = true := decide_eq_true c21
                              clear c21
                              replace H := Option.bind_eq_some_iff.mp H
                              obtain ⟨t109, A220, H⟩ := H
                              replace H : (if t109 = true then (scrivenerref07_MayFrags.l2 k4 a0 l1 x5_2 ((rd_T25 l1 x5_2).f1) x7_4 0) else (some false)) = some r := H
                              have A22 := Aside0.mk A220
                              clear A220
                              by_cases c23 : t109 = true
                              · subst c23
                                have H1 : (scrivenerref07_MayFrags.l2 k4 a0 l1 x5_2 ((rd_T25 l1 x5_2).f1) x7_4 0) = some r := by rw [if_pos rfl] at H; exact H
                                clear H
                                have H := H1
                                clear H1
                                have H' := Aside0.mk H
                                clear H
                                have p108 : 0 ≤ (x7_4 : Int) := of_decide_eq_true (by first | (with_reducible assumption) | assumption)
                                have q108 : x7_4 < (((rd_T25 l1 x5_2).f1).length : Int) := of_decide_eq_true (by first | (with_reducible assumption) | assumption)
                                obtain ⟨ad108, e108, hx108_0, hx108_1⟩ := at_T32 HR104_1.out x7_4 p108 q108
                                cases e108
                                replace hx108_0 := (HB.out.cell (World.block_lt_of_cell? w _ hx108_0)).trans hx108_0
                                replace hx108_1 := (HB.out.cell (World.block_lt_of_cell? w _ hx108_1)).trans hx108_1
                                replace p108 := eq_true p108
                                replace q108 := eq_true q108
                                go_wp2_with (first | (go_at_call 32; (with_reducible refine (scrivenerref07_MayPlace.calls ((rd_T32 ((rd_T25 l1 x5_2).f1) x7_4).f0) ((rd_T32 ((rd_T25 l1 x5_2).f1) x7_4).f1) true _ A22.out).mono ?_); rintro e w24 ⟨rfl, hb⟩; have n0_ := Aside0.mk (below_step (by repeat (first | (with_reducible first | exact HB.out | apply below_alloc | apply pw_below_drewN | apply below_drew1) | exact HB.out)) hb); clear HB; have HB := n0_; clear n0_; (try clear hb); (try clear hb2); (try clear hk); (try clear hi)))
                                repeat (go_quiet (first | (go_at_call 32; (with_reducible refine (scrivenerref07_MayPlace.calls ((rd_T32 ((rd_T25 l1 x5_2).f1) x7_4).f0) ((rd_T32 ((rd_T25 l1 x5_2).f1) x7_4).f1) true _ A22.out).mono ?_); rintro e w24 ⟨rfl, hb⟩; have n0_ := Aside0.mk (below_step (by repeat (first | (with_reducible first | exact HB.out | apply below_alloc | apply pw_below_drewN | apply below_drew1) | exact HB.out)) hb); clear HB; have HB := n0_; clear n0_; (try clear hb); (try clear hb2); (try clear hk); (try clear hi))); try go_wp2_with (first | (go_at_call 32; (with_reducible refine (scrivenerref07_MayPlace.calls ((rd_T32 ((rd_T25 l1 x5_2).f1) x7_4).f0) ((rd_T32 ((rd_T25 l1 x5_2).f1) x7_4).f1) true _ A22.out).mono ?_); rintro e w24 ⟨rfl, hb⟩; have n0_ := Aside0.mk (below_step (by repeat (first | (with_reducible first | exact HB.out | apply below_alloc | apply pw_below_drewN | apply below_drew1) | exact HB.out)) hb); clear HB; have HB := n0_; clear n0_; (try clear hb); (try clear hb2); (try clear hk); (try clear hi))))
                                go_loopg [8] k4 (fun kq v8 w' => ∃ (x8_5 : Int), v8 = .int .i64 x8_5 ∧ Aside0 (scrivenerref07_MayFrags.l2 kq a0 l1 x5_2 ((rd_T25 l1 x5_2).f1) x7_4 x8_5 = some r) ∧ Aside0 (kq ≤ k4) ∧ Aside0 (Below w.heap.size w w'))
                                case atStart => exact ⟨(0), (by first | rfl | (simp; done) | (simp [*]; done)), H', ⟨Nat.le_refl _⟩, ⟨by repeat (first | (with_reducible first | exact HB.out | apply below_alloc | apply pw_below_drewN | apply below_drew1) | exact HB.out)⟩⟩
                                case round =>
                                  clear H'
                                  try clear c1
                                  try clear p1
                                  try clear q1
                                  try clear hx1
                                  try clear qi1
                                  try clear c2
                                  try clear p2
                                  try clear c4
                                  try clear c4b0
                                  try clear c4b1
                                  try clear c5
                                  try clear c5b0
                                  try clear c5b1
                                  try clear c6
                                  try clear c6b0
                                  try clear c6b1
                                  try clear p6
                                  try clear c7
                                  try clear c8
                                  try clear c8b0
                                  try clear c9
                                  try clear c9b0
                                  try clear c10
                                  try clear p10
                                  try clear q10
                                  try clear hx10
                                  try clear qi10
                                  try clear c11
                                  try clear c11b0
                                  try clear c12
                                  try clear c12b0
                                  try clear c14
                                  try clear c14b0
                                  try clear c15
                                  try clear c15b0
                                  try clear c16
                                  try clear c16b0
                                  try clear c17
                                  try clear c17b0
                                  try clear c18
                                  try clear c18b0
                                  try clear c19
                                  try clear c20
                                  try clear c20b0
                                  try clear c21
                                  try clear c21b0
                                  try clear c23
                                  try clear hx103_0
                                  try clear hx103_1
                                  try clear hx104_0
                                  try clear hx104_1
                                  try clear hx105_0
                                  try clear hx105_1
                                  try clear hx106_0
                                  try clear hx106_1
                                  try clear hx107_0
                                  try clear hx107_1
                                  try clear hx108_0
                                  try clear hx108_1
                                  try clear p1
                                  try clear p10
                                  try clear p103
                                  try clear p104
                                  try clear p105
                                  try clear p106
                                  try clear p107
                                  try clear p108
                                  try clear p2
                                  try clear p6
                                  try clear q1
                                  try clear q10
                                  try clear q103
                                  try clear q104
                                  try clear q105
                                  try clear q106
                                  try clear q107
                                  try clear q108
                                  obtain ⟨x8_5, rfl, HA, HK5, HB⟩ := hrel
                                  cases gk with
                                  | zero => exact absurd HA.out (by simp [scrivenerref07_MayFrags.l2])
                                  | succ k5 =>
                                    have H := HA.out
                                    clear HA
                                    simp only [scrivenerref07_MayFrags.l2] at H
                                    by_cases c25 : x8_5 < x7_4
                                    · rw [if_pos c25] at H
                                      have c25b0 : decide (x8_5 < x7_4) = true := decide_eq_true c25
                                      clear c25
                                      by_cases c26 : 0 ≤ x8_5
                                      · rw [if_pos c26] at H
                                        have c26b0 : decide (0 ≤ x8_5) = true := decide_eq_true c26
                                        clear c26
                                        by_cases c27 : x8_5 < (((rd_T25 l1 x5_2).f1).length : Int)
                                        · rw [if_pos c27] at H
                                          have c27b0 : decide (x8_5 < (((rd_T25 l1 x5_2).f1).length : Int)) = true := decide_eq_true c27
                                          clear c27
                                          by_cases c28 : 0 ≤ x7_4
                                          · rw [if_pos c28] at H
                                            have c28b0 : decide (0 ≤ x7_4) = true := decide_eq_true c28
                                            clear c28
                                            by_cases c29 : x7_4 < (((rd_T25 l1 x5_2).f1).length : Int)
                                            · rw [if_pos c29] at H
                                              have c29b0 : decide (x7_4 < (((rd_T25 l1 x5_2).f1).length : Int)) = true := decide_eq_true c29
                                              clear c29
                                              by_cases c30 : ((rd_T32 ((rd_T25 l1 x5_2).f1) x8_5).f0) = ((rd_T32 ((rd_T25 l1 x5_2).f1) x7_4).f0)
                                              · rw [if_pos c30] at H
                                                have c30b0 : (((rd_T32 ((rd_T25 l1 x5_2).f1) x8_5).f0) == ((rd_T32 ((rd_T25 l1 x5_2).f1) x7_4).f0)) = true := beq_iff_eq.mpr c30
                                                have c30b1 : (((rd_T32 ((rd_T25 l1 x5_2).f1) x8_5).f0) != ((rd_T32 ((rd_T25 l1 x5_2).f1) x7_4).f0)) = false := bne_eq_false_iff_eq.mpr c30
                                                clear c30
                                                obtain rfl := Option.some.inj H
                                                have p110 : 0 ≤ (x8_5 : Int) := of_decide_eq_true (by first | (with_reducible assumption) | assumption)
                                                have q110 : x8_5 < (((rd_T25 l1 x5_2).f1).length : Int) := of_decide_eq_true (by first | (with_reducible assumption) | assumption)
                                                obtain ⟨ad110, e110, hx110_0, hx110_1⟩ := at_T32 HR104_1.out x8_5 p110 q110
                                                obtain rfl : ad108 = ad110 := (by injection e110)
                                                replace hx110_0 := (HB.out.cell (World.block_lt_of_cell? w _ hx110_0)).trans hx110_0
                                                replace hx110_1 := (HB.out.cell (World.block_lt_of_cell? w _ hx110_1)).trans hx110_1
                                                replace p110 := eq_true p110
                                                replace q110 := eq_true q110
                                                have p111 : 0 ≤ (x7_4 : Int) := of_decide_eq_true (by first | (with_reducible assumption) | assumption)
                                                have q111 : x7_4 < (((rd_T25 l1 x5_2).f1).length : Int) := of_decide_eq_true (by first | (with_reducible assumption) | assumption)
                                                obtain ⟨ad111, e111, hx111_0, hx111_1⟩ := at_T32 HR104_1.out x7_4 p111 q111
                                                obtain rfl : ad108 = ad111 := (by injection e111)
                                                replace hx111_0 := (HB.out.cell (World.block_lt_of_cell? w _ hx111_0)).trans hx111_0
                                                replace hx111_1 := (HB.out.cell (World.block_lt_of_cell? w _ hx111_1)).trans hx111_1
                                                replace p111 := eq_true p111
                                                replace q111 := eq_true q111
                                                go_wp2
                                                repeat (go_quiet (fail); try go_wp2)
                                                go_ret
                                                exact ⟨by first | rfl | (simp [errW_none, errW_some] <;> rfl) | (simp [*, errW_none, errW_some] <;> rfl), by repeat (first | (with_reducible first | exact HB.out | apply below_alloc | apply pw_below_drewN | apply below_drew1) | exact HB.out)⟩
                                              · rw [if_neg c30] at H
                                                have c30b0 : (((rd_T32 ((rd_T25 l1 x5_2).f1) x8_5).f0) == ((rd_T32 ((rd_T25 l1 x5_2).f1) x7_4).f0)) = false := beq_eq_false_iff_ne.mpr c30
                                                have c30b1 : (((rd_T32 ((rd_T25 l1 x5_2).f1) x8_5).f0) != ((rd_T32 ((rd_T25 l1 x5_2).f1) x7_4).f0)) = true := bne_iff_ne.mpr c30
                                                have H' := Aside0.mk H
                                                clear H
                                                have p110 : 0 ≤ (x8_5 : Int) := of_decide_eq_true (by first | (with_reducible assumption) | assumption)
                                                have q110 : x8_5 < (((rd_T25 l1 x5_2).f1).length : Int) := of_decide_eq_true (by first | (with_reducible assumption) | assumption)
                                                obtain ⟨ad110, e110, hx110_0, hx110_1⟩ := at_T32 HR104_1.out x8_5 p110 q110
                                                obtain rfl : ad108 = ad110 := (by injection e110)
                                                replace hx110_0 := (HB.out.cell (World.block_lt_of_cell? w _ hx110_0)).trans hx110_0
                                                replace hx110_1 := (HB.out.cell (World.block_lt_of_cell? w _ hx110_1)).trans hx110_1
                                                replace p110 := eq_true p110
                                                replace q110 := eq_true q110
                                                have p111 : 0 ≤ (x7_4 : Int) := of_decide_eq_true (by first | (with_reducible assumption) | assumption)
                                                have q111 : x7_4 < (((rd_T25 l1 x5_2).f1).length : Int) := of_decide_eq_true (by first | (with_reducible assumption) | assumption)
                                                obtain ⟨ad111, e111, hx111_0, hx111_1⟩ := at_T32 HR104_1.out x7_4 p111 q111
                                                obtain rfl : ad108 = ad111 := (by injection e111)
                                                replace hx111_0 := (HB.out.cell (World.block_lt_of_cell? w _ hx111_0)).trans hx111_0
                                                replace hx111_1 := (HB.out.cell (World.block_lt_of_cell? w _ hx111_1)).trans hx111_1
                                                replace p111 := eq_true p111
                                                replace q111 := eq_true q111
                                                go_wp2
                                                repeat (go_quiet (fail); try go_wp2)
                                                go_roundg k5
                                                case measure => have := HJ2.out; have := HK2.out; have := HJ9.out; have := HK4.out; have := HK5.out; omega
                                                case rel => exact ⟨(wrap64 (x8_5 + 1)), (by first | rfl | (simp; done) | (simp [*]; done)), H', ⟨by have := HJ2.out; have := HK2.out; have := HJ9.out; have := HK4.out; have := HK5.out; omega⟩, ⟨by repeat (first | (with_reducible first | exact HB.out | apply below_alloc | apply pw_below_drewN | apply below_drew1) | exact HB.out)⟩⟩
                                            · rw [if_neg c29] at H
                                              exact absurd H (by simp)
                                          · rw [if_neg c28] at H
                                            exact absurd H (by simp)
                                        · rw [if_neg c27] at H
                                          exact absurd H (by simp)
                                      · rw [if_neg c26] at H
                                        exact absurd H (by simp)
                                    · rw [if_neg c25] at H
                                      have c25b0 : decide (x8_5 < x7_4) = false := decide_eq_false c25
                                      clear c25
                                      have H' := Aside0.mk H
                                      clear H
                                      go_wp2
                                      repeat (go_quiet (fail); try go_wp2)
                                      go_roundg k5
                                      case measure => have := HJ2.out; have := HK2.out; have := HJ9.out; have := HK4.out; have := HK5.out; omega
                                      case rel => exact ⟨(wrap64 (x7_4 + 1)), (by first | rfl | (simp; done) | (simp [*]; done)), H', ⟨by have := HJ2.out; have := HK2.out; have := HJ9.out; have := HK4.out; have := HK5.out; omega⟩, ⟨by repeat (first | (with_reducible first | exact HB.out | apply below_alloc | apply pw_below_drewN | apply below_drew1) | exact HB.out)⟩⟩
                              · replace c23 := Bool.eq_false_iff.mpr c23
                                subst c23
                                have H1 : (some false) = some r := by rw [if_neg (show ¬ (false = true) by decide)] at H; exact H
                                clear H
                                have H := H1
                                clear H1
                                obtain rfl := Option.some.inj H
                                have p108 : 0 ≤ (x7_4 : Int) := of_decide_eq_true (by first | (with_reducible assumption) | assumption)
                                have q108 : x7_4 < (((rd_T25 l1 x5_2).f1).length : Int) := of_decide_eq_true (by first | (with_reducible assumption) | assumption)
                                obtain ⟨ad108, e108, hx108_0, hx108_1⟩ := at_T32 HR104_1.out x7_4 p108 q108
                                cases e108
                                replace hx108_0 := (HB.out.cell (World.block_lt_of_cell? w _ hx108_0)).trans hx108_0
                                replace hx108_1 := (HB.out.cell (World.block_lt_of_cell? w _ hx108_1)).trans hx108_1
                                replace p108 := eq_true p108
                                replace q108 := eq_true q108
                                go_wp2_with (first | (go_at_call 32; (with_reducible refine (scrivenerref07_MayPlace.calls ((rd_T32 ((rd_T25 l1 x5_2).f1) x7_4).f0) ((rd_T32 ((rd_T25 l1 x5_2).f1) x7_4).f1) false _ A22.out).mono ?_); rintro e w31 ⟨rfl, hb⟩; have n0_ := Aside0.mk (below_step (by repeat (first | (with_reducible first | exact HB.out | apply below_alloc | apply pw_below_drewN | apply below_drew1) | exact HB.out)) hb); clear HB; have HB := n0_; clear n0_; (try clear hb); (try clear hb2); (try clear hk); (try clear hi)))
                                repeat (go_quiet (first | (go_at_call 32; (with_reducible refine (scrivenerref07_MayPlace.calls ((rd_T32 ((rd_T25 l1 x5_2).f1) x7_4).f0) ((rd_T32 ((rd_T25 l1 x5_2).f1) x7_4).f1) false _ A22.out).mono ?_); rintro e w31 ⟨rfl, hb⟩; have n0_ := Aside0.mk (below_step (by repeat (first | (with_reducible first | exact HB.out | apply below_alloc | apply pw_below_drewN | apply below_drew1) | exact HB.out)) hb); clear HB; have HB := n0_; clear n0_; (try clear hb); (try clear hb2); (try clear hk); (try clear hi))); try go_wp2_with (first | (go_at_call 32; (with_reducible refine (scrivenerref07_MayPlace.calls ((rd_T32 ((rd_T25 l1 x5_2).f1) x7_4).f0) ((rd_T32 ((rd_T25 l1 x5_2).f1) x7_4).f1) false _ A22.out).mono ?_); rintro e w31 ⟨rfl, hb⟩; have n0_ := Aside0.mk (below_step (by repeat (first | (with_reducible first | exact HB.out | apply below_alloc | apply pw_below_drewN | apply below_drew1) | exact HB.out)) hb); clear HB; have HB := n0_; clear n0_; (try clear hb); (try clear hb2); (try clear hk); (try clear hi))))
                                go_ret
                                exact ⟨by first | rfl | (simp [errW_none, errW_some] <;> rfl) | (simp [*, errW_none, errW_some] <;> rfl), by repeat (first | (with_reducible first | exact HB.out | apply below_alloc | apply pw_below_drewN | apply below_drew1) | exact HB.out)⟩
                            · rw [if_neg c21] at H
                              exact absurd H (by simp)
                          · rw [if_neg c20] at H
                            have c20b0 : decide (x7_4 < (((rd_T25 l1 x5_2).f1).length : Int)) = false := decide_eq_false c20
                            clear c20
                            have H' := Aside0.mk H
                            clear H
                            go_wp2
                            repeat (go_quiet (fail); try go_wp2)
                            go_roundg k4
                            case measure => have := HJ2.out; have := HK2.out; have := HJ9.out; have := HK4.out; omega
                            case rel => exact ⟨(wrap64 (x5_2 + 1)), (by first | rfl | (simp; done) | (simp [*]; done)), H', ⟨by have := HJ2.out; have := HK2.out; have := HJ9.out; have := HK4.out; omega⟩, ⟨by repeat (first | (with_reducible first | exact HB.out | apply below_alloc | apply pw_below_drewN | apply below_drew1) | exact HB.out)⟩⟩
              · rw [if_neg c9] at H
                exact absurd H (by simp)
            · rw [if_neg c8] at H
              have c8b0 : decide (x5_2 < (l1.length : Int)) = false := decide_eq_false c8
              clear c8
              obtain rfl := Option.some.inj H
              go_wp2
              repeat (go_quiet (fail); try go_wp2)
              go_ret
              exact ⟨by first | rfl | (simp [errW_none, errW_some] <;> rfl) | (simp [*, errW_none, errW_some] <;> rfl), by repeat (first | (with_reducible first | exact HB.out | apply below_alloc | apply pw_below_drewN | apply below_drew1) | exact HB.out)⟩

end Go.Proofs.Ytipjnfljkknmgaa.Q
/- What the reference's functions come to, as functions of lists, with rounds enough. Conditions: lengths within a machine's numbers. -/
namespace Go.Proofs.Ytipjnfljkknmgaa.Q
open Go.RowKit Go.Proofs.YtipjnfljkknmgaaW.PrintWords Go.Proofs.YtipjnfljkknmgaaW.PrintLast Go.Proofs.YtipjnfljkknmgaaW.PrintMore
set_option linter.unusedVariables false
set_option linter.unusedSimpArgs false

theorem neS (a b : S32) : (!(a.f0 == b.f0) || (!(a.f1 == b.f1))) = !decide (a = b) := by
  rw [Bool.eq_iff_iff]
  simp only [Bool.or_eq_true, Bool.not_eq_true', beq_eq_false_iff_ne, decide_eq_false_iff_not]
  constructor
  · rintro (h | h) e <;> exact h (by rw [e])
  · intro h
    by_cases h0 : a.f0 = b.f0
    · exact .inr fun h1 => h (S_ext h0 h1)
    · exact .inl h0
theorem eqS' (a b : S32) : (a.f0 == b.f0 && (a.f1 == b.f1)) = decide (a = b) := by
  rw [Bool.eq_iff_iff]
  simp only [Bool.and_eq_true, beq_iff_eq, decide_eq_true_eq]
  exact ⟨fun h => S_ext h.1 h.2, fun h => by subst h; exact ⟨rfl, rfl⟩⟩
theorem mkS (a : S32) : (⟨a.f0, a.f1⟩ : S32) = a := by cases a; rfl

set_option linter.unusedSectionVars false
section
variable (set frm : List S32) (hs : set.length ≤ 4611686018427387903) (hf : frm.length ≤ 4611686018427387903)
include hs hf
theorem among_l2 (i n : Nat) (hi : i < set.length) (hn : n ≤ i) (first : Bool) {r : Int} (d : Nat) : ∀ (j : Nat) (acc : Bool), j + d = frm.length →
    Ev (fun k => scrivenerref14_Among.l0 k set frm ((if first = true ∧ (acc = true ∨ set[i] ∈ frm.drop j) then n + 1 else n : Nat) : Int) ((i + 1 : Nat) : Int)) r →
    Ev (fun k => scrivenerref14_Among.l2 k set frm (n : Int) (i : Int) first acc (j : Int)) r := by
  induction d with
  | zero =>
    intro j acc hj h
    rw [List.drop_eq_nil_of_le (by omega)] at h
    simp only [List.not_mem_nil, or_false] at h
    refine Ev.step (fun k => ?_) h
    simp only [scrivenerref14_Among.l2]
    rw [if_neg (by omega), w1 i (by omega), w1 n (by omega)]
    cases first <;> cases acc <;> simp
  | succ d ih =>
    intro j acc hj h
    have hlt : j < frm.length := by omega
    refine Ev.step (f := fun k => scrivenerref14_Among.l2 k set frm (n : Int) (i : Int) first (acc || decide (frm[j] = set[i])) ((j + 1 : Nat) : Int)) (fun k => ?_) (ih (j + 1) _ (by omega) ?_)
    · simp only [scrivenerref14_Among.l2]
      rw [if_pos (by omega), w1 j (by omega)]
      cases acc with
      | true => simp
      | false =>
        rw [if_neg (by simp), if_pos (by omega), if_pos (by omega), if_pos (by omega), rdT_get frm j hlt, rdT_get set i hi, eqS']
        simp
    · rw [List.drop_eq_getElem_cons hlt] at h
      have e : (first = true ∧ ((acc || decide (frm[j] = set[i])) = true ∨ set[i] ∈ frm.drop (j + 1))) = (first = true ∧ (acc = true ∨ set[i] ∈ frm[j] :: frm.drop (j + 1))) := by
        apply propext
        simp only [Bool.or_eq_true, decide_eq_true_eq, List.mem_cons]
        constructor
        · rintro ⟨h1, (h2 | h2) | h2⟩
          · exact ⟨h1, .inl h2⟩
          · exact ⟨h1, .inr (.inl h2.symm)⟩
          · exact ⟨h1, .inr (.inr h2)⟩
        · rintro ⟨h1, h2 | h2 | h2⟩
          · exact ⟨h1, .inl (.inl h2)⟩
          · exact ⟨h1, .inl (.inr h2.symm)⟩
          · exact ⟨h1, .inr h2⟩
      simp only [e]
      exact h
theorem among_l1 (i n : Nat) (hi : i < set.length) {r : Int} (d : Nat) : ∀ (j : Nat) (first : Bool), j + d = i →
    Ev (fun k => scrivenerref14_Among.l2 k set frm (n : Int) (i : Int) (first && decide (set[i] ∉ (set.take i).drop j)) false 0) r →
    Ev (fun k => scrivenerref14_Among.l1 k set frm (n : Int) (i : Int) first (j : Int)) r := by
  induction d with
  | zero =>
    intro j first hj h
    rw [List.drop_eq_nil_of_le (by rw [List.length_take]; omega)] at h
    refine Ev.step (fun k => ?_) h
    simp only [scrivenerref14_Among.l1]
    rw [if_neg (by omega)]
    simp
  | succ d ih =>
    intro j first hj h
    have hlt : j < set.length := by omega
    refine Ev.step (f := fun k => scrivenerref14_Among.l1 k set frm (n : Int) (i : Int) (first && !decide (set[j] = set[i])) ((j + 1 : Nat) : Int)) (fun k => ?_) (ih (j + 1) _ (by omega) ?_)
    · simp only [scrivenerref14_Among.l1]
      rw [if_pos (by omega), w1 j (by omega)]
      cases first with
      | true =>
        rw [if_pos rfl, if_pos (by omega), if_pos (by omega), if_pos (by omega), if_pos (by omega), rdT_get set j hlt, rdT_get set i hi, neS]
        simp
      | false => rw [if_neg (by simp)]; simp
    · have hd : (set.take i).drop j = set[j] :: (set.take i).drop (j + 1) := by
        rw [List.drop_eq_getElem_cons (by rw [List.length_take]; omega)]
        simp
      rw [hd] at h
      have e : (first && !decide (set[j] = set[i]) && decide (set[i] ∉ (set.take i).drop (j + 1))) = (first && decide (set[i] ∉ set[j] :: (set.take i).drop (j + 1))) := by
        rw [Bool.and_assoc]
        congr 1
        rw [Bool.eq_iff_iff]
        simp only [Bool.and_eq_true, Bool.not_eq_true', decide_eq_false_iff_not, decide_eq_true_eq, List.mem_cons, not_or]
        exact ⟨fun h => ⟨fun e => h.1 e.symm, h.2⟩, fun h => ⟨fun e => h.1 e.symm, h.2⟩⟩
      rw [e]
      exact h
theorem among_l0 {d : Nat} : ∀ (i n : Nat), i + d = set.length → n ≤ i →
    Ev (fun k => scrivenerref14_Among.l0 k set frm (n : Int) (i : Int)) ((n + cntGo frm (set.take i) (set.drop i) : Nat) : Int) := by
  induction d with
  | zero =>
    intro i n hi hn
    rw [List.drop_eq_nil_of_le (by omega), cntGo]
    refine Ev.step (fun k => ?_) (Ev.now _)
    simp only [scrivenerref14_Among.l0]
    rw [if_neg (by omega)]
    simp
  | succ d ih =>
    intro i n hi hn
    have hlt : i < set.length := by omega
    refine Ev.step (f := fun k => scrivenerref14_Among.l1 k set frm (n : Int) (i : Int) true ((0 : Nat) : Int)) (fun k => ?_) ?_
    · simp only [scrivenerref14_Among.l0]
      rw [if_pos (by omega)]
      rfl
    · refine among_l1 set frm hs hf i n hlt i 0 true (by omega) ?_
      refine among_l2 set frm hs hf i n hlt hn _ frm.length 0 false (by omega) ?_
      have := ih (i + 1) (if set[i] ∈ frm ∧ set[i] ∉ set.take i then n + 1 else n) (by omega) (by split <;> omega)
      have htk : set.take (i + 1) = set.take i ++ [set[i]] := by rw [List.take_succ_eq_append_getElem hlt]
      rw [htk] at this
      rw [List.drop_eq_getElem_cons hlt, cntGo]
      have e : ((true && decide (set[i] ∉ (set.take i).drop 0)) = true ∧ (false = true ∨ set[i] ∈ frm.drop 0)) = (set[i] ∈ frm ∧ set[i] ∉ set.take i) := by
        apply propext
        simp only [Bool.true_and, decide_eq_true_eq, List.drop_zero, Bool.false_eq_true, false_or]
        exact ⟨fun h => ⟨h.2, h.1⟩, fun h => ⟨h.2, h.1⟩⟩
      simp only [e]
      rw [show n + ((if set[i] ∈ frm ∧ set[i] ∉ set.take i then 1 else 0) + cntGo frm (set.take i ++ [set[i]]) (set.drop (i + 1))) = (if set[i] ∈ frm ∧ set[i] ∉ set.take i then n + 1 else n) + cntGo frm (set.take i ++ [set[i]]) (set.drop (i + 1)) from by split <;> omega]
      exact this
theorem among_ev : Ev (fun k => scrivenerref14_Among.f k set frm) ((cnt set frm : Nat) : Int) := by
  have := among_l0 set frm hs hf (d := set.length) 0 0 (by omega) (by omega)
  refine Ev.congr (fun k => ?_) (show Ev _ _ from by simpa [cnt] using this)
  rfl
theorem rmissing_ev (w a : Int) : Ev (fun k => scrivenerref14_Missing.f k set w a frm) (missB set w a frm) := by
  unfold scrivenerref14_Missing.f missB
  by_cases h : a > w
  · simp only [if_pos h, if_pos (show w < a from h)]
    exact Ev.now _
  · simp only [if_neg h, if_neg (show ¬ w < a from h)]
    refine Ev.bind (among_ev set frm hs hf) ?_
    exact Ev.now _
theorem pmissing_ev (w a : Int) : Ev (fun k => stripe_Missing.f k set w a frm) (missB set w a frm) := ⟨2 * set.length + frm.length + 1, fun k hk => missing_ev set w a frm hs (by omega) k (by omega)⟩
theorem racked_ev (a : Int) : Ev (fun k => scrivenerref14_Acked.f k set a frm) (decide (a ≥ 1 ∧ (cnt set frm : Int) ≥ a)) := by
  unfold scrivenerref14_Acked.f
  by_cases h : a > 0
  · simp only [if_pos h]
    refine Ev.bind (among_ev set frm hs hf) ?_
    rw [show decide (a ≥ 1 ∧ (cnt set frm : Int) ≥ a) = decide ((cnt set frm : Int) ≥ a) from decide_eq_decide.2 ⟨fun h => h.2, fun h => ⟨by omega, h⟩⟩]
    exact Ev.now _
  · simp only [if_neg h]
    rw [show decide (a ≥ 1 ∧ (cnt set frm : Int) ≥ a) = false from decide_eq_false (fun h => by omega)]
    exact Ev.now _
theorem packed_ev (a : Int) : Ev (fun k => stripe_Acked.f k set a frm) (decide (a ≥ 1 ∧ (cnt set frm : Int) ≥ a)) := by
  unfold stripe_Acked.f
  by_cases h : a ≥ 1
  · simp only [if_pos h]
    refine Ev.bind ⟨2 * set.length + frm.length + 1, fun k hk => count_ev set frm hs (by omega) k (by omega)⟩ ?_
    rw [show decide (a ≥ 1 ∧ (cnt set frm : Int) ≥ a) = decide ((cnt set frm : Int) ≥ a) from by simp [h]]
    exact Ev.now _
  · simp only [if_neg h]
    rw [show decide (a ≥ 1 ∧ (cnt set frm : Int) ≥ a) = false from by simp [h]]
    exact Ev.now _
end

/-! ### Same -/
theorem same_go (a b : List S32) (hl : a.length = b.length) (hm : a.length ≤ 4611686018427387903) (d : Nat) : ∀ i : Nat, i + d = a.length → Ev (fun k => scrivenerref14_Same.l0 k a b (i : Int)) (decide (a.drop i = b.drop i)) := by
  induction d with
  | zero =>
    intro i hi
    rw [List.drop_eq_nil_of_le (by omega), List.drop_eq_nil_of_le (by omega)]
    refine Ev.step (fun k => ?_) (Ev.now _)
    simp only [scrivenerref14_Same.l0]
    rw [if_neg (by omega)]
    simp
  | succ d ih =>
    intro i hi
    have h1 : i < a.length := by omega
    have h2 : i < b.length := by omega
    rw [List.drop_eq_getElem_cons h1, List.drop_eq_getElem_cons h2]
    by_cases e : a[i] = b[i]
    · refine Ev.step (f := fun k => scrivenerref14_Same.l0 k a b ((i + 1 : Nat) : Int)) (fun k => ?_) ?_
      · simp only [scrivenerref14_Same.l0]
        rw [if_pos (by omega), if_pos (by omega), if_pos (by omega), rdT_get a i h1, rdT_get b i h2, neS, if_neg (by simp [e]), w1 i (by omega)]
      · rw [show decide (a[i] :: a.drop (i + 1) = b[i] :: b.drop (i + 1)) = decide (a.drop (i + 1) = b.drop (i + 1)) from decide_eq_decide.2 ⟨fun h => (List.cons.inj h).2, fun h => by rw [e, h]⟩]
        exact ih (i + 1) (by omega)
    · rw [show decide (a[i] :: a.drop (i + 1) = b[i] :: b.drop (i + 1)) = false from decide_eq_false (fun h => e (List.cons.inj h).1)]
      refine Ev.step (fun k => ?_) (Ev.now _)
      simp only [scrivenerref14_Same.l0]
      rw [if_pos (by omega), if_pos (by omega), if_pos (by omega), rdT_get a i h1, rdT_get b i h2, neS, if_pos (by simp [e])]
theorem same_ev (a b : List S32) (hm : a.length ≤ 4611686018427387903) : Ev (fun k => scrivenerref14_Same.f k a b) (decide (a = b)) := by
  unfold scrivenerref14_Same.f
  by_cases hl : a.length = b.length
  · simp only [if_pos (show (a.length : Int) = (b.length : Int) from by omega)]
    simpa using same_go a b hl hm a.length 0 (by omega)
  · simp only [if_neg (show ¬ (a.length : Int) = (b.length : Int) from by omega)]
    rw [show decide (a = b) = false from by simp; rintro rfl; exact hl rfl]
    exact Ev.now _

/-! ### The write set of one fragment -/
theorem lastGo_one (n : Int) (x : S25) : lastGo n [x] (z25, false) = if x.f0 ≤ n then (x, true) else (z25, false) := rfl
/-- The write set of an entry by one fragment. -/
def setL (f : S25) (w n : Int) : List S32 := if f.f0 ≤ n ∧ 1 ≤ w ∧ w ≤ f.f1.length then fromL f.f1 ((n - f.f0).toNat % f.f1.length) w.toNat else []
theorem u64_len (n : Nat) (h : n ≤ 4611686018427387903) : IntKind.u64.wrap (n : Int) = n := by
  have : (n : Int) % 18446744073709551616 = n := Int.emod_eq_of_lt (by omega) (by omega)
  exact this
theorem pset_ev (f : S25) (w n : Int) (hn : 0 ≤ n ∧ n < 18446744073709551616) (hf : 0 ≤ f.f0 ∧ f.f0 < 18446744073709551616) (hl : f.f1.length ≤ 4398046511104) : Ev (fun k => stripe_Set.f k [f] w n) (setL f w n) := by
  unfold stripe_Set.f stripe_Frag.f setL
  rw [lastGo_one]
  by_cases h0 : f.f0 ≤ n
  · simp only [if_pos h0]
    rw [if_pos (by omega)]
    simp only [Option.bind_some, if_true]
    by_cases h1 : w < 1
    · simp only [if_pos h1]
      rw [if_neg (by omega)]
      exact Ev.now _
    · simp only [if_neg h1]
      by_cases h2 : w > (f.f1.length : Int)
      · simp only [if_pos h2]
        rw [if_neg (by omega)]
        exact Ev.now _
      · simp only [if_neg h2]
        have hpos : 0 < f.f1.length := by omega
        have hu : IntKind.u64.wrap (n - f.f0) = n - f.f0 := by
          have : (n - f.f0) % 18446744073709551616 = n - f.f0 := Int.emod_eq_of_lt (by omega) (by omega)
          exact this
        rw [u64_len _ (by omega), hu]
        have hm : Int.tmod (n - f.f0) (f.f1.length : Int) = (((n - f.f0).toNat % f.f1.length : Nat) : Int) := by
          rw [Int.tmod_eq_emod_of_nonneg (by omega)]
          obtain ⟨dn, hdn⟩ : ∃ dn : Nat, n - f.f0 = dn := ⟨(n - f.f0).toNat, by omega⟩
          rw [hdn, Int.toNat_natCast]
          rfl
        have hlt : (n - f.f0).toNat % f.f1.length < f.f1.length := Nat.mod_lt _ hpos
        rw [hm, show wrap64 (((n - f.f0).toNat % f.f1.length : Nat) : Int) = (((n - f.f0).toNat % f.f1.length : Nat) : Int) from by unfold wrap64; omega]
        simp only [if_neg (show ¬ (f.f1.length : Int) = 0 from by omega)]
        rw [if_pos ⟨h0, by omega, by omega⟩]
        obtain ⟨wn, rfl⟩ : ∃ m : Nat, w = m := ⟨w.toNat, by omega⟩
        rw [Int.toNat_natCast]
        refine Ev.bind ⟨wn + 1, fun k hk => from_ev f.f1 _ wn hpos (by omega) (by omega) (by omega) k (by omega)⟩ ?_
        exact Ev.now _
  · simp only [if_neg h0]
    rw [if_pos (by simp [z25]), if_neg (by omega)]
    simp only [Option.bind_some, if_false, Bool.false_eq_true]
    exact Ev.now _
end Go.Proofs.Ytipjnfljkknmgaa.Q
/- StripeCounts, the plain law: both ways of counting answers agree. No condition but that lengths are a machine's. -/
namespace Go.Proofs.Ytipjnfljkknmgaa.Q
open Go.RowKit Go.Proofs.YtipjnfljkknmgaaW.PrintWords Go.Proofs.YtipjnfljkknmgaaW.PrintLast Go.Proofs.YtipjnfljkknmgaaW.PrintMore
set_option linter.unusedVariables false
set_option linter.unusedSimpArgs false

theorem ev_ite {α : Type} {c : Prop} [Decidable c] {g h : Nat → Option α} {r : α} (h1 : c → Ev g r) (h2 : ¬ c → Ev h r) : Ev (fun k => if c then g k else h k) r := by
  by_cases hc : c
  · simp only [if_pos hc]; exact h1 hc
  · simp only [if_neg hc]; exact h2 hc

theorem ev_pos {α : Type} {c : Prop} [Decidable c] {g h : Nat → Option α} {r : α} (hc : c) (h1 : Ev g r) : Ev (fun k => if c then g k else h k) r := ev_ite (fun _ => h1) (fun h => absurd hc h)
theorem ev_neg {α : Type} {c : Prop} [Decidable c] {g h : Nat → Option α} {r : α} (hc : ¬ c) (h1 : Ev h r) : Ev (fun k => if c then g k else h k) r := ev_ite (fun h => absurd h hc) (fun _ => h1)
theorem longfrags_one (f : S25) (hl : f.f1.length ≤ 9223372036854775807) : Ev (fun k => scrivenerlaw07_LongFrags.f k [f]) (decide (f.f1.length > 30)) := by
  refine ⟨3, fun k hk => ?_⟩
  obtain ⟨k, rfl⟩ : ∃ m, k = m + 2 := ⟨k - 2, by omega⟩
  show (if (([f].length : Nat) : Int) > 30 then some true else scrivenerlaw07_LongFrags.l0 (k + 2) [f] 0) = _
  rw [if_neg (by simp)]
  simp only [scrivenerlaw07_LongFrags.l0]
  rw [if_pos (by simp), if_pos (by omega)]
  have : rd_T25 [f] 0 = f := rfl
  rw [this]
  by_cases h : f.f1.length > 30
  · rw [if_pos (by omega), decide_eq_true h]
  · rw [if_neg (by omega), decide_eq_false h, if_neg (by simp [wrap64])]
theorem long_go (rows : List (List S32)) (hm : rows.length ≤ 1000) (d : Nat) : ∀ i : Nat, i + d = rows.length → Ev (fun k => longP14.l0 k rows (i : Int)) ((rows.drop i).any fun l => decide (l.length > 60)) := by
  induction d with
  | zero =>
    intro i hi
    rw [List.drop_eq_nil_of_le (by omega)]
    refine Ev.step (fun k => ?_) (Ev.now _)
    simp only [longP14.l0]
    rw [if_neg (by omega)]
    rfl
  | succ d ih =>
    intro i hi
    have hlt : i < rows.length := by omega
    have hr : rd_L3 rows (i : Int) = rows[i] := by simp [rd_L3, List.getD_eq_getElem?_getD, List.getElem?_eq_getElem hlt]
    rw [List.drop_eq_getElem_cons hlt, List.any_cons]
    by_cases h : rows[i].length > 60
    · rw [decide_eq_true h, Bool.true_or]
      refine Ev.step (fun k => ?_) (Ev.now _)
      simp only [longP14.l0]
      rw [if_pos (by omega), if_pos (by omega), hr, if_pos (by omega)]
    · rw [decide_eq_false h, Bool.false_or]
      refine Ev.step (f := fun k => longP14.l0 k rows ((i + 1 : Nat) : Int)) (fun k => ?_) (ih (i + 1) (by omega))
      simp only [longP14.l0]
      rw [if_pos (by omega), if_pos (by omega), hr, if_neg (by omega), w1 i (by omega)]
/-- Are rows longer than is gone through? -/
def longB (f : S25) (w : Int) (rows : List (List S32)) : Bool := decide (f.f1.length > 30) || decide (w > 1000) || rows.any fun l => decide (l.length > 60)
theorem long_ev (f : S25) (w : Int) (rows : List (List S32)) (hl : f.f1.length ≤ 9223372036854775807) (hm : rows.length ≤ 1000) : Ev (fun k => scrivenerlaw14_long.f k [f] w rows) (longB f w rows) := by
  unfold scrivenerlaw14_long.f longP14.f longB
  refine Ev.bind (longfrags_one f hl) ?_
  have hj : ∀ b : Bool, Ev (fun k => longP14.j0 k rows b) (b || rows.any fun l => decide (l.length > 60)) := by
    intro b
    cases b with
    | true =>
      refine Ev.step (fun k => ?_) (Ev.now _)
      simp [longP14.j0]
    | false =>
      refine Ev.step (f := fun k => longP14.l0 k rows ((0 : Nat) : Int)) (fun k => ?_) (by simpa using long_go rows hm rows.length 0 (by omega))
      simp [longP14.j0]
  by_cases h : f.f1.length > 30
  · simp only [decide_eq_true h, if_true, Bool.true_or]
    simpa using hj true
  · simp only [decide_eq_false h, Bool.false_or, Bool.false_eq_true, if_false]
    exact hj _
/-! ### The reference's write set and cover -/
theorem rfrag_one (f : S25) (n : Int) : Ev (fun k => scrivenerref14_Frag.f k [f] n) (if f.f0 ≤ n then 0 else -1) := by
  refine ⟨3, fun k hk => ?_⟩
  obtain ⟨k, rfl⟩ : ∃ m, k = m + 2 := ⟨k - 2, by omega⟩
  show scrivenerref14_Frag.l0 (k + 2) [f] n (wrap64 (([f].length : Int) - 1)) = _
  have h0 : wrap64 (([f].length : Int) - 1) = 0 := by simp [wrap64]
  rw [h0]
  simp only [scrivenerref14_Frag.l0]
  have : rd_T25 [f] 0 = f := rfl
  rw [if_pos (by omega), if_pos (by omega), if_pos (by simp), this]
  split
  · rfl
  · rw [if_neg (by simp [wrap64])]
theorem rset_go (b : List S32) (w : Nat) (hw : w ≤ 8796093022207) (hb : b.length ≤ 4611686018427387903) (hpos : 0 < b.length) (s : Nat) (hs : s < b.length) (d : Nat) : ∀ i : Nat, i + d = w →
    Ev (fun k => scrivenerref14_Set.l0 k (w : Int) (fromL b s i) b (((s + i) % b.length : Nat) : Int)) (fromL b s w) := by
  induction d with
  | zero =>
    intro i hi
    obtain rfl : i = w := by omega
    refine Ev.step (fun k => ?_) (Ev.now _)
    simp only [scrivenerref14_Set.l0]
    rw [if_neg (by rw [fromL_length]; omega)]
  | succ d ih =>
    intro i hi
    have hlt : (s + i) % b.length < b.length := Nat.mod_lt _ hpos
    refine Ev.step (f := fun k => scrivenerref14_Set.l0 k (w : Int) (fromL b s (i + 1)) b (((s + (i + 1)) % b.length : Nat) : Int)) (fun k => ?_) (ih (i + 1) (by omega))
    simp only [scrivenerref14_Set.l0]
    rw [if_pos (by rw [fromL_length]; omega), if_pos (by omega), if_pos (by omega), if_pos (by rw [fromL_length]; omega), Option.bind_some, mkS]
    have he : rd_T32 b (((s + i) % b.length : Nat) : Int) = b.getD ((s + i) % b.length) z32 := by simp only [rd_T32, Int.toNat_natCast]
    rw [he, ← fromL_succ, w1 _ (by omega)]
    by_cases e : (s + i) % b.length + 1 = b.length
    · rw [if_pos (by omega)]
      have : (s + (i + 1)) % b.length = 0 := by rw [← Nat.add_assoc, ← Nat.mod_add_mod, e, Nat.mod_self]
      rw [this]
      rfl
    · rw [if_neg (by omega)]
      have : (s + (i + 1)) % b.length = (s + i) % b.length + 1 := by rw [← Nat.add_assoc, ← Nat.mod_add_mod, Nat.mod_eq_of_lt (by omega)]
      rw [this]
theorem rset_ev (f : S25) (w n : Int) (hn : 0 ≤ n ∧ n < 18446744073709551616) (hf : 0 ≤ f.f0 ∧ f.f0 < 18446744073709551616) (hl : f.f1.length ≤ 4398046511104) : Ev (fun k => scrivenerref14_Set.f k [f] w n) (setL f w n) := by
  unfold scrivenerref14_Set.f setL
  refine Ev.bind (rfrag_one f n) ?_
  have hr : rd_T25 [f] 0 = f := rfl
  by_cases h0 : f.f0 ≤ n
  · simp only [if_pos h0]
    refine ev_neg (by omega) ?_
    by_cases h1 : w < 1
    · refine ev_pos h1 ?_
      rw [if_neg (by omega)]
      refine Ev.step (fun k => ?_) (Ev.now _)
      simp [scrivenerref14_Set.j0]
    · refine ev_neg h1 (ev_pos (by omega) (ev_pos (by simp) ?_))
      rw [hr]
      by_cases h2 : w > (f.f1.length : Int)
      · rw [decide_eq_true h2, if_neg (by omega)]
        refine Ev.step (fun k => ?_) (Ev.now _)
        simp [scrivenerref14_Set.j0]
      · rw [decide_eq_false h2, if_pos ⟨h0, by omega, by omega⟩]
        have hpos : 0 < f.f1.length := by omega
        have hlt : (n - f.f0).toNat % f.f1.length < f.f1.length := Nat.mod_lt _ hpos
        obtain ⟨wn, rfl⟩ : ∃ m : Nat, w = m := ⟨w.toNat, by omega⟩
        rw [Int.toNat_natCast]
        have hgo := rset_go f.f1 wn (by omega) (by omega) hpos _ hlt wn 0 (by omega)
        refine Ev.step (fun k => ?_) hgo
        simp only [scrivenerref14_Set.j0, Bool.false_eq_true, if_false, hr, List.length_cons, List.length_nil]
        have hu : IntKind.u64.wrap (n - f.f0) = n - f.f0 := by
          have : (n - f.f0) % 18446744073709551616 = n - f.f0 := Int.emod_eq_of_lt (by omega) (by omega)
          exact this
        rw [if_pos (by omega), if_pos (by omega), u64_len _ (by omega), hu, if_neg (by omega)]
        have hm : Int.tmod (n - f.f0) (f.f1.length : Int) = (((n - f.f0).toNat % f.f1.length : Nat) : Int) := by
          rw [Int.tmod_eq_emod_of_nonneg (by omega)]
          obtain ⟨dn, hdn⟩ : ∃ dn : Nat, n - f.f0 = dn := ⟨(n - f.f0).toNat, by omega⟩
          rw [hdn, Int.toNat_natCast]
          rfl
        rw [hm, show wrap64 (((n - f.f0).toNat % f.f1.length : Nat) : Int) = (((n - f.f0).toNat % f.f1.length : Nat) : Int) from by unfold wrap64; omega]
        simp [fromL, Nat.mod_mod]
  · simp only [if_neg h0]
    rw [if_neg (fun h => h0 h.1)]
    refine ev_pos (by omega) ?_
    refine Ev.step (fun k => ?_) (Ev.now _)
    simp [scrivenerref14_Set.j0]
/-! ### Covered -/
def covB (b : List S32) (w a : Int) (l3 : List S32) : Bool := if w < 1 ∨ w > (b.length : Int) then false else (List.range b.length).all fun k => missB (fromL b k w.toNat) w a l3
theorem pcov (f0 : Int) (b : List S32) (w a : Int) (l3 : List S32) (hb : b.length ≤ 8796093022208) : stripe_Covered.f f0 b w a l3 = some (covB b w a l3) := by
  unfold stripe_Covered.f covB
  split
  · rfl
  · first | rfl | (rw [if_pos hb]; rfl) | rw [if_pos hb]
theorem rcov_go (b : List S32) (w : Nat) (a : Int) (l3 : List S32) (hb : b.length ≤ 1000000) (hw : 1 ≤ w ∧ w ≤ b.length) (hl3 : l3.length ≤ 4611686018427387903) (d : Nat) : ∀ i : Nat, i + d = b.length →
    Ev (fun k => scrivenerref14_Covered.l0 k (w : Int) a l3 ((i + 1 : Nat) : Int) 1 b) ((List.range' i d).all fun k => missB (fromL b k w) w a l3) := by
  induction d with
  | zero =>
    intro i hi
    refine Ev.step (fun k => ?_) (Ev.now _)
    simp only [scrivenerref14_Covered.l0]
    rw [if_neg (by omega)]
    rfl
  | succ d ih =>
    intro i hi
    have hu : IntKind.u64.wrap ((i + 1 : Nat) : Int) = ((i + 1 : Nat) : Int) := u64_len _ (by omega)
    have hset : setL ⟨1, b⟩ (w : Int) ((i + 1 : Nat) : Int) = fromL b i w := by
      unfold setL
      dsimp only
      rw [if_pos ⟨by omega, by omega, by omega⟩]
      congr 1
      rw [show (((i + 1 : Nat) : Int) - 1).toNat = i from by omega, Nat.mod_eq_of_lt (by omega)]
    rw [List.range'_succ, List.all_cons]
    refine Ev.step (f := fun k => (scrivenerref14_Set.f k [(⟨1, b⟩ : S25)] (w : Int) ((i + 1 : Nat) : Int)).bind fun t => (scrivenerref14_Missing.f k t (w : Int) a l3).bind fun u => if u = true then scrivenerref14_Covered.l0 k (w : Int) a l3 ((i + 1 + 1 : Nat) : Int) 1 b else some false) (fun k => ?_) ?_
    · simp only [scrivenerref14_Covered.l0]
      rw [if_pos (by omega), hu, w1 (i + 1) (by omega)]
    · have hs1 := rset_ev ⟨1, b⟩ (w : Int) ((i + 1 : Nat) : Int) (by omega) (by dsimp only; omega) (by dsimp only; omega)
      rw [hset] at hs1
      refine Ev.bind hs1 ?_
      refine Ev.bind (rmissing_ev (fromL b i w) l3 (by rw [fromL_length]; omega) hl3 (w : Int) a) ?_
      cases h : missB (fromL b i w) (w : Int) a l3 with
      | true => simpa using ih (i + 1) (by omega)
      | false => simpa using Ev.now _
theorem rcov_ev (f0 : Int) (b : List S32) (w a : Int) (l3 : List S32) (hb : b.length ≤ 1000000) (hl3 : l3.length ≤ 4611686018427387903) : Ev (fun k => scrivenerref14_Covered.f k f0 b w a l3) (covB b w a l3) := by
  unfold scrivenerref14_Covered.f covB
  by_cases h1 : w < 1
  · rw [if_pos (.inl h1)]
    refine ev_pos h1 ?_
    refine Ev.step (fun k => ?_) (Ev.now _)
    simp [scrivenerref14_Covered.j0]
  · refine ev_neg h1 ?_
    by_cases h2 : w > (b.length : Int)
    · rw [if_pos (.inr h2), decide_eq_true h2]
      refine Ev.step (fun k => ?_) (Ev.now _)
      simp [scrivenerref14_Covered.j0]
    · rw [if_neg (by rintro (h | h) <;> contradiction), decide_eq_false h2]
      obtain ⟨wn, rfl⟩ : ∃ m : Nat, w = m := ⟨w.toNat, by omega⟩
      rw [Int.toNat_natCast]
      have := rcov_go b wn a l3 hb (by omega) hl3 b.length 0 (by omega)
      rw [← List.range_eq_range'] at this
      refine Ev.step (fun k => ?_) this
      simp [scrivenerref14_Covered.j0]

/-- The plain law. -/
theorem counts_ev (f0 : Int) (b set : List S32) (w a : Int) (frm : List S32) (hb : b.length ≤ 9223372036854775807) : Ev (fun k => scrivenerlaw14_StripeCounts.f k f0 b set w a frm) true := by
  unfold scrivenerlaw14_StripeCounts.f
  have haw : ∀ x1 x4 : List S32, Ev (fun k => scrivenerlaw14_StripeCounts.j0 k x1 w a x4 true f0 b) true := by
    intro x1 x4
    refine Ev.step (fun k => ?_) (Ev.now _)
    simp [scrivenerlaw14_StripeCounts.j0, scrivenerlaw14_awake.f]
  refine Ev.bind (long_ev ⟨f0, b⟩ w [set, frm] hb (by simp)) ?_
  refine ev_ite (fun _ => haw set frm) (fun hlong => ?_)
  refine ev_ite (fun _ => haw set frm) (fun h1 => ?_)
  refine ev_ite (fun _ => haw set frm) (fun h2 => ?_)
  by_cases h3 : w < -1000
  · rw [decide_eq_true h3]; exact haw set frm
  · rw [decide_eq_false h3]
    simp only [longB, List.any_cons, List.any_nil, Bool.or_false, Bool.or_eq_true, decide_eq_true_eq, not_or] at hlong
    obtain ⟨⟨l1, l2⟩, l3, l4⟩ := hlong
    have hs : set.length ≤ 4611686018427387903 := by omega
    have hf : frm.length ≤ 4611686018427387903 := by omega
    refine Ev.step (f := fun k => (stripe_Acked.f k set a frm).bind fun t237 => (scrivenerref14_Acked.f k set a frm).bind fun t238 => if (t237 == t238) = true then ((stripe_Missing.f k set w a frm).bind fun t239 => (scrivenerref14_Missing.f k set w a frm).bind fun t240 => if (t239 == t240) = true then ((stripe_Covered.f f0 b w a frm).bind fun t241 => (scrivenerref14_Covered.f k f0 b w a frm).bind fun t242 => if (t241 == t242) = true then some true else some false) else some false) else some false) (fun k => ?_) ?_
    · simp only [scrivenerlaw14_StripeCounts.j0, Bool.false_eq_true, if_false, Option.bind_some, List.nil_append, List.length_nil]
      rw [if_pos (by omega)]
      rfl
    · refine Ev.bind (packed_ev set frm hs hf a) (Ev.bind (racked_ev set frm hs hf a) ?_)
      simp only [beq_self_eq_true, if_true]
      refine Ev.bind (pmissing_ev set frm hs hf w a) (Ev.bind (rmissing_ev set frm hs hf w a) ?_)
      simp only [beq_self_eq_true, if_true]
      rw [pcov f0 b w a frm (by omega)]
      simp only [Option.bind_some]
      refine Ev.bind (rcov_ev f0 b w a frm (by omega) hf) ?_
      simp only [beq_self_eq_true, if_true]
      exact Ev.now _
end Go.Proofs.Ytipjnfljkknmgaa.Q
