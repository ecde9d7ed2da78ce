/- Part 7 of the proof of the row StripeMore: written for this claim by the session and by a program of its own. -/
import Derived.Test.YtipjnfljkknmgaaCStripeMorep1
import Derived.Deep.Slices
import Derived.ChangeSame
import Derived.SizedLaws
import Derived.ProofKit
namespace Go.Proofs.Ytipjnfljkknmgaa.Q
open Go.RowKit Go.Proofs.YtipjnfljkknmgaaW.PrintWords Go.Proofs.YtipjnfljkknmgaaW.PrintLast Go.Proofs.YtipjnfljkknmgaaW.PrintMore
set_option linter.unusedVariables false
set_option linter.unusedSimpArgs false
open Go.ChangeShapes Go.WideShapes Go.Deep
structure Opens (P : Program) {α : Type} (d : Kd α) (t : TypeId) (Q : α → Prop) : Prop where
  sz : P.cellsOf t = d.sz
  go : ∀ {H : Type} {enc : TypeId × Value → H} {w : World} {base : Nat} {spare : Nat → Bool} {held : Bool} {fuel : Nat} {cs : List Value} {x : DataW H × List MemPlace}, DataW.trod enc P w base spare held fuel t cs = some x → (∀ m ∈ x.1.weights P t, m ≤ reachBytes) → ∃ a, d.K w a cs ∧ Q a
/-- The same for a struct's fields from one on, the cells before it left out. -/
structure OpensF (P : Program) {α : Type} (d : Kd α) (fs : List Field) (o : Nat) (Q : α → Prop) : Prop where
  go : ∀ {H : Type} {enc : TypeId × Value → H} {w : World} {base : Nat} {spare : Nat → Bool} {held : Bool} {n : Nat} {cs : List Value} {xs : List (DataW H × List MemPlace)}, cs.length = o + d.sz → xs.length = fs.length →
    (∀ (i : Nat) (f : Field), fs[i]? = some f → DataW.trod enc P w base spare held n f.type ((cs.drop f.offset).take (P.cellsOf f.type)) = xs[i]?) → (∀ m ∈ DataW.weightsEach P (fs.map (·.type)) (xs.map (·.1)), m ≤ reachBytes) → ∃ a, d.K w a (cs.drop o) ∧ Q a
section
variable {P : Program} {t e : TypeId} {α β : Type} {d : Kd α} {d' : Kd β} {Q : α → Prop} {Q' : β → Prop} {o : Nat} {f : Field} {fs : List Field}
theorem opens_int {k : IntKind} (ht : P.underlying t = some (.int k)) (hs : P.cellsOf t = 1) : Opens P (Kd.int k) t (fun n => (Lit.int k n).wf = true) := ⟨hs, fun h _ => by
  obtain ⟨n, rfl, _, hw⟩ := DataW.trod_int ht h
  exact ⟨n, rfl, hw⟩⟩
theorem opens_iso {g : β → α} (h : Opens P d t Q) (b : α → β) (hb : ∀ a, g (b a) = a) (hq : ∀ a, Q a → Q' (b a)) : Opens P (Kd.iso d g) t Q' := ⟨h.sz, fun ht hw => by
  obtain ⟨a, hk, ha⟩ := h.go ht hw
  exact ⟨b a, by show d.K _ (g (b a)) _; rw [hb]; exact hk, hq a ha⟩⟩
theorem opensF_one (hf : f.offset = o) (h : Opens P d f.type Q) : OpensF P d [f] o Q := ⟨by
  intro H enc w base spare held n cs xs hl hx ht hw
  obtain ⟨x, rfl⟩ : ∃ x, xs = [x] := List.length_eq_one_iff.1 hx
  have h1 := ht 0 f rfl
  rw [h.sz, hf, List.take_of_length_le (by rw [List.length_drop]; omega)] at h1
  exact h.go h1 (fun m hm => hw m (by simpa [DataW.weightsEach] using hm))⟩
theorem opensF_cons (hf : f.offset = o) (h : Opens P d f.type Q) (hr : OpensF P d' fs (o + d.sz) Q') : OpensF P (Kd.pair d d') (f :: fs) o (fun x => Q x.1 ∧ Q' x.2) := ⟨by
  intro H enc w base spare held n cs xs hl hx ht hw
  have hl' : cs.length = o + (d.sz + d'.sz) := hl
  cases xs with
  | nil => cases hx
  | cons x xs =>
    have h1 := ht 0 f rfl
    rw [h.sz, hf] at h1
    simp only [List.map_cons, DataW.weightsEach, List.mem_append] at hw
    obtain ⟨a, ka, qa⟩ := h.go h1 (fun m hm => hw m (.inl hm))
    obtain ⟨b, kb, qb⟩ := hr.go (xs := xs) (by omega) (by simpa using hx) (fun i f' hi => ht (i + 1) f' (by simpa using hi)) (fun m hm => hw m (.inr hm))
    refine ⟨(a, b), ⟨_, _, ?_, ka, kb⟩, qa, qb⟩
    rw [← List.drop_drop, List.take_append_drop]⟩
theorem opens_struct {fa : Array Field} (ht : P.underlying t = some (.struct fa)) (hs : P.cellsOf t = d.sz) (h : OpensF P d fa.toList 0 Q) : Opens P d t Q := ⟨hs, fun hx hw => by
  obtain ⟨xs, n, _, rfl, hl, hlx, hi⟩ := DataW.trod_struct ht hx
  have := h.go (xs := xs) (by rw [hl, hs, Nat.zero_add]) (by simpa using hlx) (fun i f hf => hi i f (by simpa using hf)) (fun m hm => hw m (by simpa only [DataW.weights, ht] using hm))
  simpa using this⟩
theorem list_of {p : Nat → α → Prop} (n : Nat) (h : ∀ i, i < n → ∃ a, p i a) : ∃ xs : List α, xs.length = n ∧ ∀ i a, xs[i]? = some a → p i a := by
  induction n with
  | zero => exact ⟨[], rfl, fun i a h => by simp at h⟩
  | succ n ih =>
    obtain ⟨xs, hl, hx⟩ := ih (fun i hi => h i (by omega))
    obtain ⟨a, ha⟩ := h n (by omega)
    refine ⟨xs ++ [a], by simp [hl], fun i b hb => ?_⟩
    rcases Nat.lt_or_ge i xs.length with hi | hi
    · rw [List.getElem?_append_left hi] at hb
      exact hx i b hb
    · rw [List.getElem?_append_right hi] at hb
      have h0 := (List.getElem?_eq_some_iff.1 hb).1
      simp only [List.length_singleton] at h0
      have hi' : i = n := by omega
      subst hi'
      rw [← hl] at hb ⊢
      simp at hb
      subst hb
      rw [hl]
      exact ha
theorem weightsAll_mem {H : Type} : ∀ {ds : List (DataW H)} {y : DataW H}, y ∈ ds → ∀ m ∈ y.weights P e, m ∈ DataW.weightsAll P e ds
  | d :: ds, y, hy, m, hm => by
    rcases List.mem_cons.1 hy with rfl | hy
    · simp only [DataW.weightsAll, List.mem_append]; exact .inl hm
    · simp only [DataW.weightsAll, List.mem_append]; exact .inr (weightsAll_mem hy m hm)
theorem opens_row (ht : P.underlying t = some (.slice e)) (h : Opens P d e Q) {H : Type} {enc : TypeId × Value → H} {w : World} {base : Nat} {spare : Nat → Bool} {held : Bool} {fuel : Nat} {cs : List Value} {x : DataW H × List MemPlace}
    (hx : DataW.trod enc P w base spare held fuel t cs = some x) (hw : ∀ m ∈ x.1.weights P t, m ≤ reachBytes) : ∃ A c xs, cs = [.slice A xs.length c] ∧ xs.length ≤ c ∧ d.C w A xs.length xs ∧ xs.length * P.bytesOf e ≤ reachBytes ∧ ∀ y ∈ xs, Q y := by
  rcases open_slice ht hx with ⟨rfl, rfl⟩ | ⟨a, len, cap, m, n, D, Pl, rfl, hb, hl, hm, hmm, rfl, hi⟩
  · exact ⟨none, 0, [], rfl, Nat.le_refl _, ⟨rfl, by simp, fun h0 => absurd h0 (by simp)⟩, by simp, by simp⟩
  · simp only [DataW.weights, ht, List.mem_cons, List.mem_append] at hw
    have hlm : len ≤ m := by rw [hmm]; split <;> omega
    have hi' : ∀ i, i < len → ∃ y, (∃ cs', w.cells? base (a.add (i * P.cellsOf e)) (P.cellsOf e) = some cs' ∧ d.K w y cs') ∧ Q y := by
      intro i hil
      obtain ⟨cs', hc, hx'⟩ := hi i (by omega)
      obtain ⟨y, hk, hq⟩ := h.go hx' (fun m' hm' => hw m' (.inr (.inl (weightsAll_mem (List.mem_map.2 ⟨i, List.mem_range.2 hil, rfl⟩) m' hm'))))
      exact ⟨y, ⟨cs', hc, hk⟩, hq⟩
    obtain ⟨xs, hxl, hxs⟩ := list_of len hi'
    subst hxl
    refine ⟨some a, cap, xs, rfl, hl, ⟨rfl, by simp only [maxLen] at hm; omega, fun _ => ⟨a, rfl, fun j p hj => ?_⟩⟩, ?_, fun y hy => ?_⟩
    · obtain ⟨⟨cs', hc, hk⟩, _⟩ := hxs j p hj
      refine ⟨cs', d.K_len hk, hk, fun i u hu => ?_⟩
      obtain ⟨_, hcl, hat⟩ := World.cells?_some hc
      have hil := (List.getElem?_eq_some_iff.1 hu).1
      have := hat i (by omega)
      rw [h.sz] at this
      rw [← Go.Deep.add_add, this, hu]
    · have := hw _ (.inl rfl)
      rw [List.length_map, List.length_range, List.length_map, List.length_range] at this
      exact Nat.le_trans (Nat.mul_le_mul_right _ (by omega)) this
    · obtain ⟨i, hil, rfl⟩ := List.mem_iff_getElem.1 hy
      exact (hxs i _ (List.getElem?_eq_getElem hil)).2
theorem opens_slice {e' : Nat} (ht : P.underlying t = some (.slice e)) (hs : P.cellsOf t = 1) (h : Opens P d e Q) : Opens P (Kd.slice e' d) t (fun xs => xs.length * P.bytesOf e ≤ reachBytes ∧ ∀ y ∈ xs, Q y) := ⟨hs, fun hx hw => by
  obtain ⟨A, c, xs, rfl, hl, hC, hb, hq⟩ := opens_row ht h hx hw
  exact ⟨xs, ⟨A, c, rfl, hl, hC⟩, hb, hq⟩⟩
theorem heap_F (hd : Kd.Heap d) {w : World} {A : Option Addr} {n : Nat} {xs : List α} (h : d.C w A n xs) : Kd.F d w (fun _ => True) A n xs := fun W' hW => hd.C (fun k hk => hW k trivial hk) h
/-- A parameter that is a row. -/
theorem open_V (ht : P.underlying t = some (.slice e)) (h : Opens P d e Q) (hd : Kd.Heap d) (e' : Nat) {H : Type} {enc : TypeId × Value → H} {w : World} {base : Nat} {spare : Nat → Bool} {held : Bool} {v : Value} {y : DataW H} {ps : List MemPlace} {r : Reach} {b0 : Nat}
    (hv : Value.okWide P w r b0 t v) (hx : DataW.Trod enc P w base spare held t v y ps) (hw : ∀ m ∈ y.weights P t, m ≤ reachBytes) : ∃ A c xs, v = .slice A xs.length c ∧ Kd.V d e' w w.heap.size (fun _ => True) (.slice A xs.length c) xs ∧ xs.length * P.bytesOf e ≤ reachBytes ∧ ∀ z ∈ xs, Q z := by
  obtain ⟨a, len, cap, rfl⟩ := okWide_slice ht hv
  obtain ⟨fuel, hx⟩ := hx
  obtain ⟨A, c, xs, hcs, hl, hC, hb, hq⟩ := opens_row ht h hx hw
  simp only [Value.cells, List.cons.injEq, Value.slice.injEq, and_true] at hcs
  obtain ⟨rfl, rfl, rfl⟩ := hcs
  exact ⟨a, cap, xs, rfl, ⟨a, cap, rfl, hl, heap_F hd hC⟩, hb, hq⟩
/-- A parameter that is a struct. -/
theorem open_K {fa : Array Field} (ht : P.underlying t = some (.struct fa)) (h : Opens P d t Q) {H : Type} {enc : TypeId × Value → H} {w : World} {base : Nat} {spare : Nat → Bool} {held : Bool} {v : Value} {y : DataW H} {ps : List MemPlace} {r : Reach} {b0 : Nat}
    (hv : Value.okWide P w r b0 t v) (hx : DataW.Trod enc P w base spare held t v y ps) (hw : ∀ m ∈ y.weights P t, m ≤ reachBytes) : ∃ cs a, v = .agg cs.toArray ∧ d.K w a cs ∧ Q a := by
  obtain ⟨cs, rfl, hsz⟩ := okWide_struct ht hv
  obtain ⟨fuel, hx⟩ := hx
  obtain ⟨a, hk, hq⟩ := h.go hx hw
  exact ⟨cs.toList, a, by simp, hk, hq⟩
theorem weights_of {ts : List TypeId} {H : Type} {ds : List (DataW H)} {j : Nat} {y : DataW H} (h : (DataW.weightsEach P ts ds).all (· ≤ reachBytes) = true) (ht : ts[j]? = some t) (hd : ds[j]? = some y) : ∀ m ∈ y.weights P t, m ≤ reachBytes := fun m hm => by
  simpa using List.all_eq_true.1 h m (DataW.weights_mem_each ht hd m hm)
end
end Go.Proofs.Ytipjnfljkknmgaa.Q
namespace Go.Proofs.Ytipjnfljkknmgaa.Q
open Go.RowKit Go.Proofs.YtipjnfljkknmgaaW.PrintWords Go.Proofs.YtipjnfljkknmgaaW.PrintLast Go.Proofs.YtipjnfljkknmgaaW.PrintMore
set_option linter.unusedVariables false
theorem opens_i64 {P : Program} {t : TypeId} (ht : P.underlying t = some (.int .i64)) (hs : P.cellsOf t = 1) : Opens P (Kd.int .i64) t (fun x => -9223372036854775808 ≤ x ∧ x ≤ 9223372036854775807) := ⟨hs, fun h hw => by
  obtain ⟨a, hk, ha⟩ := (opens_int ht hs).go h hw
  refine ⟨a, hk, ?_⟩
  simp [Lit.wf, IntKind.min, IntKind.max, IntKind.signed, IntKind.bits] at ha
  omega⟩
theorem opens_u64 {P : Program} {t : TypeId} (ht : P.underlying t = some (.int .u64)) (hs : P.cellsOf t = 1) : Opens P (Kd.int .u64) t (fun x => 0 ≤ x ∧ x < 18446744073709551616) := ⟨hs, fun h hw => by
  obtain ⟨a, hk, ha⟩ := (opens_int ht hs).go h hw
  refine ⟨a, hk, ?_⟩
  simp [Lit.wf, IntKind.min, IntKind.max, IntKind.signed, IntKind.bits] at ha
  omega⟩
theorem opens_rows {P : Program} {t e : TypeId} {α : Type} {d : Kd α} {Q : α → Prop} {e' B : Nat} (ht : P.underlying t = some (.slice e)) (hs : P.cellsOf t = 1) (hb : P.bytesOf e = B) (h : Opens P d e Q) : Opens P (Kd.slice e' d) t (fun xs => xs.length * B ≤ 140737488351232 ∧ ∀ y ∈ xs, Q y) := by subst hb; exact opens_slice ht hs h
theorem open_row {P : Program} {t e : TypeId} {α : Type} {d : Kd α} {Q : α → Prop} {B : Nat} (ht : P.underlying t = some (.slice e)) (hb : P.bytesOf e = B) (h : Opens P d e Q) (hd : Kd.Heap d) (e' : Nat) {H : Type} {enc : TypeId × Value → H} {w : World} {base : Nat} {spare : Nat → Bool} {held : Bool} {v : Value} {y : DataW H} {ps : List MemPlace} {r : Reach} {b0 : Nat}
    (hv : Value.okWide P w r b0 t v) (hx : DataW.Trod enc P w base spare held t v y ps) (hw : ∀ m ∈ y.weights P t, m ≤ reachBytes) : ∃ A c xs, v = .slice A xs.length c ∧ Kd.V d e' w w.heap.size (fun _ => True) (.slice A xs.length c) xs ∧ xs.length * B ≤ 140737488351232 ∧ ∀ z ∈ xs, Q z := by subst hb; exact open_V ht h hd e' hv hx hw
def ok32 (x : S32) : Prop := (-9223372036854775808 ≤ x.f0 ∧ x.f0 ≤ 9223372036854775807) ∧ (0 ≤ x.f1 ∧ x.f1 < 18446744073709551616)
theorem heap_32 : Kd.Heap k32 := Kd.heap_iso _ (Kd.heap_pair (Kd.heap_int _) (Kd.heap_int _))
theorem opens_32 : Opens Try.prog k32 32 ok32 := opens_iso (opens_struct Try.underlying32 (by kernel_rfl) (opensF_cons rfl (opens_i64 Try.underlying3 (by kernel_rfl)) (opensF_one rfl (opens_u64 Try.underlying22 (by kernel_rfl))))) (fun p => ⟨p.1, p.2⟩) (fun _ => rfl) (fun p h => h)
def ok25 (x : S25) : Prop := (0 ≤ x.f0 ∧ x.f0 < 18446744073709551616) ∧ (x.f1.length * 16 ≤ 140737488351232 ∧ ∀ y ∈ x.f1, ok32 y)
theorem opens_25 : Opens Try.prog k25 25 ok25 := opens_iso (opens_struct Try.underlying25 (by kernel_rfl) (opensF_cons rfl (opens_u64 Try.underlying22 (by kernel_rfl)) (opensF_one rfl (opens_rows (B := 16) Try.underlying23 (by kernel_rfl) (by kernel_rfl) opens_32)))) (fun p => ⟨p.1, p.2⟩) (fun _ => rfl) (fun p h => h)
end Go.Proofs.Ytipjnfljkknmgaa.Q
namespace Go.Proofs.Ytipjnfljkknmgaa.Q
open Go.RowKit Go.Proofs.YtipjnfljkknmgaaW.PrintWords Go.Proofs.YtipjnfljkknmgaaW.PrintLast Go.Proofs.YtipjnfljkknmgaaW.PrintMore
attribute [local go_sem] max2_int min2_int max_two min_two max_three min_three max_four min_four   -- for this text's walks alone
set_option linter.unusedVariables false
set_option linter.unusedSimpArgs false
attribute [local go_sem high] eqA32
mutual
def scrivenerref14_Among.l0 : Nat → List (S32) → List (S32) → Int → Int → Option (Int)
  | 0, _, _, _, _ => none
  | k + 1, x0, x1, x5, x6 => if x6 < (x0.length : Int) then (scrivenerref14_Among.l1 k x0 x1 x5 x6 true 0) else (some x5)
def scrivenerref14_Among.l1 : Nat → List (S32) → List (S32) → Int → Int → Bool → Int → Option (Int)
  | 0, _, _, _, _, _, _ => none
  | k + 1, x0, x1, x5, x6, x7, x8 => if x8 < x6 then (if x7 = true then (if 0 ≤ x8 then (if x8 < (x0.length : Int) then (if 0 ≤ x6 then (if x6 < (x0.length : Int) then (scrivenerref14_Among.l1 k x0 x1 x5 x6 (!(((rd_T32 x0 x8).f0) == ((rd_T32 x0 x6).f0)) || (!(((rd_T32 x0 x8).f1) == ((rd_T32 x0 x6).f1)))) (wrap64 (x8 + 1))) else (none)) else (none)) else (none)) else (none)) else (scrivenerref14_Among.l1 k x0 x1 x5 x6 false (wrap64 (x8 + 1)))) else (scrivenerref14_Among.l2 k x0 x1 x5 x6 x7 false 0)
def scrivenerref14_Among.l2 : Nat → List (S32) → List (S32) → Int → Int → Bool → Bool → Int → Option (Int)
  | 0, _, _, _, _, _, _, _ => none
  | k + 1, x0, x1, x5, x6, x7, x9, x10 => if x10 < (x1.length : Int) then (if x9 = true then (scrivenerref14_Among.l2 k x0 x1 x5 x6 x7 true (wrap64 (x10 + 1))) else (if 0 ≤ x10 then (if 0 ≤ x6 then (if x6 < (x0.length : Int) then (scrivenerref14_Among.l2 k x0 x1 x5 x6 x7 (((rd_T32 x1 x10).f0) == ((rd_T32 x0 x6).f0) && (((rd_T32 x1 x10).f1) == ((rd_T32 x0 x6).f1))) (wrap64 (x10 + 1))) else (none)) else (none)) else (none))) else (if x7 = true then (if x9 = true then (scrivenerref14_Among.l0 k x0 x1 (wrap64 (x5 + 1)) (wrap64 (x6 + 1))) else (scrivenerref14_Among.l0 k x0 x1 x5 (wrap64 (x6 + 1)))) else (scrivenerref14_Among.l0 k x0 x1 x5 (wrap64 (x6 + 1))))
end
def scrivenerref14_Among.f (k : Nat) (l0 : List (S32)) (l1 : List (S32)) : Option (Int) := scrivenerref14_Among.l0 k l0 l1 0 0
set_option maxHeartbeats 8000000 in
set_option maxRecDepth 100000 in
theorem scrivenerref14_Among.calls (k : Nat) (A0 : Option Addr) (c0 : Nat) (l0 : List (S32)) (A1 : Option Addr) (c1 : Nat) (l1 : List (S32)) (r : Int) (w : World) (hr0 : Kd.C k32 w A0 l0.length l0) (hc0 : l0.length ≤ c0) (hr1 : Kd.C k32 w A1 l1.length l1) (hc1 : l1.length ≤ c1) (h : scrivenerref14_Among.f k l0 l1 = some r) :
    Calls Try.prog 14 #[.slice A0 l0.length c0, .slice A1 l1.length c1] w fun e w' => e = .returned (.int .i64 r) ∧ Drawn0 w w' := by
  have hu32 := Try.underlying32
  have HR0 := Aside0.mk hr0
  have HC0 := Aside0.mk hc0
  clear hr0 hc0
  have HR1 := Aside0.mk hr1
  have HC1 := Aside0.mk hc1
  clear hr1 hc1
  have H : (scrivenerref14_Among.l0 k l0 l1 0 0) = some r := h
  clear h
  have H' := Aside0.mk H
  clear H
  go_enter Try.func14, Try.ntmps14
  go_wp2
  repeat (go_quiet (fail); try go_wp2)
  go_loopg [5, 6] k (fun kq v5 v6 w' => ∃ (x5_1 : Int) (x6_1 : Int), v5 = .int .i64 x5_1 ∧ v6 = .int .i64 x6_1 ∧ Aside0 (scrivenerref14_Among.l0 kq l0 l1 x5_1 x6_1 = some r) ∧ Aside0 (kq ≤ k) ∧ Drawn0 w w')
  case atStart => exact ⟨(0), (0), (by first | rfl | (simp; done) | (simp [*]; done)), (by first | rfl | (simp; done) | (simp [*]; done)), H', ⟨Nat.le_refl _⟩, by repeat (first | exact Drawn0.refl _ | apply Drawn0.step)⟩
  case round =>
    clear H'
    try clear c1
    try clear p2
    obtain ⟨x5_1, x6_1, rfl, rfl, HA, HK1, ⟨m1, rfl⟩⟩ := hrel
    cases gk with
    | zero => exact absurd HA.out (by simp [scrivenerref14_Among.l0])
    | succ k1 =>
      have H := HA.out
      clear HA
      simp only [scrivenerref14_Among.l0] at H
      by_cases c3 : x6_1 < (l0.length : Int)
      · rw [if_pos c3] at H
        have c3b0 : decide (x6_1 < (l0.length : Int)) = true := decide_eq_true c3
        clear c3
        have H' := Aside0.mk H
        clear H
        go_wp2
        repeat (go_quiet (fail); try go_wp2)
        go_loopg [7, 8] k1 (fun kq v7 v8 w' => ∃ (x7_2 : Bool) (x8_2 : Int), v7 = .bool x7_2 ∧ v8 = .int .i64 x8_2 ∧ Aside0 (scrivenerref14_Among.l1 kq l0 l1 x5_1 x6_1 x7_2 x8_2 = some r) ∧ Aside0 (kq ≤ k1) ∧ Drawn0 w w')
        case atStart => exact ⟨(true), (0), (by first | rfl | (simp; done) | (simp [*]; done)), (by first | rfl | (simp; done) | (simp [*]; done)), H', ⟨Nat.le_refl _⟩, by repeat (first | exact Drawn0.refl _ | apply Drawn0.step)⟩
        case round =>
          clear H'
          try clear c1
          try clear p2
          try clear c3
          try clear c3b0
          try clear p2
          obtain ⟨x7_2, x8_2, rfl, rfl, HA, HK2, ⟨m2, rfl⟩⟩ := hrel
          cases gk with
          | zero => exact absurd HA.out (by simp [scrivenerref14_Among.l1])
          | succ k2 =>
            have H := HA.out
            clear HA
            simp only [scrivenerref14_Among.l1] at H
            by_cases c4 : x8_2 < x6_1
            · rw [if_pos c4] at H
              have c4b0 : decide (x8_2 < x6_1) = true := decide_eq_true c4
              clear c4
              by_cases c5 : x7_2 = true
              · subst c5
                rw [if_pos rfl] at H
                by_cases c6 : 0 ≤ x8_2
                · rw [if_pos c6] at H
                  have c6b0 : decide (0 ≤ x8_2) = true := decide_eq_true c6
                  clear c6
                  by_cases c7 : x8_2 < (l0.length : Int)
                  · rw [if_pos c7] at H
                    have c7b0 : decide (x8_2 < (l0.length : Int)) = true := decide_eq_true c7
                    clear c7
                    by_cases c8 : 0 ≤ x6_1
                    · rw [if_pos c8] at H
                      have c8b0 : decide (0 ≤ x6_1) = true := decide_eq_true c8
                      clear c8
                      by_cases c9 : x6_1 < (l0.length : Int)
                      · rw [if_pos c9] at H
                        have c9b0 : decide (x6_1 < (l0.length : Int)) = true := decide_eq_true c9
                        clear c9
                        have H' := Aside0.mk H
                        clear H
                        have p143 : 0 ≤ (x8_2 : Int) := of_decide_eq_true (by first | (with_reducible assumption) | assumption)
                        have q143 : x8_2 < (l0.length : Int) := of_decide_eq_true (by first | (with_reducible assumption) | assumption)
                        obtain ⟨ad143, e143, hx143_0, hx143_1⟩ := at_T32 HR0.out x8_2 p143 q143
                        cases e143
                        replace p143 := eq_true p143
                        replace q143 := eq_true q143
                        have p144 : 0 ≤ (x6_1 : Int) := of_decide_eq_true (by first | (with_reducible assumption) | assumption)
                        have q144 : x6_1 < (l0.length : Int) := of_decide_eq_true (by first | (with_reducible assumption) | assumption)
                        obtain ⟨ad144, e144, hx144_0, hx144_1⟩ := at_T32 HR0.out x6_1 p144 q144
                        obtain rfl : ad143 = ad144 := (by injection e144)
                        replace p144 := eq_true p144
                        replace q144 := eq_true q144
                        go_wp2
                        repeat (go_quiet (fail); try go_wp2)
                        go_roundg k2
                        case measure => have := HK1.out; have := HK2.out; omega
                        case rel => exact ⟨((!(((rd_T32 l0 x8_2).f0) == ((rd_T32 l0 x6_1).f0)) || (!(((rd_T32 l0 x8_2).f1) == ((rd_T32 l0 x6_1).f1))))), (wrap64 (x8_2 + 1)), (by first | rfl | (simp; done) | (simp [*]; done)), (by first | rfl | (simp; done) | (simp [*]; done)), H', ⟨by have := HK1.out; have := HK2.out; omega⟩, by repeat (first | exact Drawn0.refl _ | apply Drawn0.step)⟩
                      · rw [if_neg c9] at H
                        exact absurd H (by simp)
                    · rw [if_neg c8] at H
                      exact absurd H (by simp)
                  · rw [if_neg c7] at H
                    exact absurd H (by simp)
                · rw [if_neg c6] at H
                  exact absurd H (by simp)
              · replace c5 := Bool.eq_false_iff.mpr c5
                subst c5
                rw [if_neg (show ¬ (false = true) by decide)] at H
                have H' := Aside0.mk H
                clear H
                go_wp2
                repeat (go_quiet (fail); try go_wp2)
                go_roundg k2
                case measure => have := HK1.out; have := HK2.out; omega
                case rel => exact ⟨(false), (wrap64 (x8_2 + 1)), (by first | rfl | (simp; done) | (simp [*]; done)), (by first | rfl | (simp; done) | (simp [*]; done)), H', ⟨by have := HK1.out; have := HK2.out; omega⟩, by repeat (first | exact Drawn0.refl _ | apply Drawn0.step)⟩
            · rw [if_neg c4] at H
              have c4b0 : decide (x8_2 < x6_1) = false := decide_eq_false c4
              clear c4
              have H' := Aside0.mk H
              clear H
              go_wp2
              repeat (go_quiet (fail); try go_wp2)
              go_loopg [9, 10] k2 (fun kq v9 v10 w' => ∃ (x9_3 : Bool) (x10_3 : Int), v9 = .bool x9_3 ∧ v10 = .int .i64 x10_3 ∧ Aside0 (scrivenerref14_Among.l2 kq l0 l1 x5_1 x6_1 x7_2 x9_3 x10_3 = some r) ∧ Aside0 (kq ≤ k2) ∧ Drawn0 w w')
              case atStart => exact ⟨(false), (0), (by first | rfl | (simp; done) | (simp [*]; done)), (by first | rfl | (simp; done) | (simp [*]; done)), H', ⟨Nat.le_refl _⟩, by repeat (first | exact Drawn0.refl _ | apply Drawn0.step)⟩
              case round =>
                clear H'
                try clear c1
                try clear p1
                try clear q1
                try clear hx1
                try clear p2
                try clear c3
                try clear c3b0
                try clear c4
                try clear c4b0
                try clear c5
                try clear c6
                try clear c6b0
                try clear p6
                try clear c7
                try clear c7b0
                try clear c8
                try clear c8b0
                try clear c9
                try clear c9b0
                try clear hx143_0
                try clear hx143_1
                try clear hx144_0
                try clear hx144_1
                try clear p143
                try clear p144
                try clear p2
                try clear q143
                try clear q144
                obtain ⟨x9_3, x10_3, rfl, rfl, HA, HK3, ⟨m3, rfl⟩⟩ := hrel
                cases gk with
                | zero => exact absurd HA.out (by simp [scrivenerref14_Among.l2])
                | succ k3 =>
                  have H := HA.out
                  clear HA
                  simp only [scrivenerref14_Among.l2] at H
                  by_cases c10 : x10_3 < (l1.length : Int)
                  · rw [if_pos c10] at H
                    have c10b0 : decide (x10_3 < (l1.length : Int)) = true := decide_eq_true c10
                    clear c10
                    by_cases c11 : x9_3 = true
                    · subst c11
                      rw [if_pos rfl] at H
                      have H' := Aside0.mk H
                      clear H
                      go_wp2
                      repeat (go_quiet (fail); try go_wp2)
                      go_roundg k3
                      case measure => have := HK1.out; have := HK2.out; have := HK3.out; omega
                      case rel => exact ⟨(true), (wrap64 (x10_3 + 1)), (by first | rfl | (simp; done) | (simp [*]; done)), (by first | rfl | (simp; done) | (simp [*]; done)), H', ⟨by have := HK1.out; have := HK2.out; have := HK3.out; omega⟩, by repeat (first | exact Drawn0.refl _ | apply Drawn0.step)⟩
                    · replace c11 := Bool.eq_false_iff.mpr c11
                      subst c11
                      rw [if_neg (show ¬ (false = true) by decide)] at H
                      by_cases c12 : 0 ≤ x10_3
                      · rw [if_pos c12] at H
                        have c12b0 : decide (0 ≤ x10_3) = true := decide_eq_true c12
                        clear c12
                        by_cases c13 : 0 ≤ x6_1
                        · rw [if_pos c13] at H
                          have c13b0 : decide (0 ≤ x6_1) = true := decide_eq_true c13
                          clear c13
                          by_cases c14 : x6_1 < (l0.length : Int)
                          · rw [if_pos c14] at H
                            have c14b0 : decide (x6_1 < (l0.length : Int)) = true := decide_eq_true c14
                            clear c14
                            have H' := Aside0.mk H
                            clear H
                            have p145 : 0 ≤ (x10_3 : Int) := of_decide_eq_true (by first | (with_reducible assumption) | assumption)
                            have q145 : x10_3 < (l1.length : Int) := of_decide_eq_true (by first | (with_reducible assumption) | assumption)
                            obtain ⟨ad145, e145, hx145_0, hx145_1⟩ := at_T32 HR1.out x10_3 p145 q145
                            cases e145
                            replace p145 := eq_true p145
                            replace q145 := eq_true q145
                            have p146 : 0 ≤ (x6_1 : Int) := of_decide_eq_true (by first | (with_reducible assumption) | assumption)
                            have q146 : x6_1 < (l0.length : Int) := of_decide_eq_true (by first | (with_reducible assumption) | assumption)
                            obtain ⟨ad146, e146, hx146_0, hx146_1⟩ := at_T32 HR0.out x6_1 p146 q146
                            cases e146
                            replace p146 := eq_true p146
                            replace q146 := eq_true q146
                            go_wp2
                            repeat (go_quiet (fail); try go_wp2)
                            go_roundg k3
                            case measure => have := HK1.out; have := HK2.out; have := HK3.out; omega
                            case rel => exact ⟨((((rd_T32 l1 x10_3).f0) == ((rd_T32 l0 x6_1).f0) && (((rd_T32 l1 x10_3).f1) == ((rd_T32 l0 x6_1).f1)))), (wrap64 (x10_3 + 1)), (by first | rfl | (simp; done) | (simp [*]; done)), (by first | rfl | (simp; done) | (simp [*]; done)), H', ⟨by have := HK1.out; have := HK2.out; have := HK3.out; omega⟩, by repeat (first | exact Drawn0.refl _ | apply Drawn0.step)⟩
                          · rw [if_neg c14] at H
                            exact absurd H (by simp)
                        · rw [if_neg c13] at H
                          exact absurd H (by simp)
                      · rw [if_neg c12] at H
                        exact absurd H (by simp)
                  · rw [if_neg c10] at H
                    have c10b0 : decide (x10_3 < (l1.length : Int)) = false := decide_eq_false c10
                    clear c10
                    by_cases c15 : x7_2 = true
                    · subst c15
                      rw [if_pos rfl] at H
                      by_cases c16 : x9_3 = true
                      · subst c16
                        rw [if_pos rfl] at H
                        have H' := Aside0.mk H
                        clear H
                        go_wp2
                        repeat (go_quiet (fail); try go_wp2)
                        go_roundg k3
                        case measure => have := HK1.out; have := HK2.out; have := HK3.out; omega
                        case rel => exact ⟨(wrap64 (x5_1 + 1)), (wrap64 (x6_1 + 1)), (by first | rfl | (simp; done) | (simp [*]; done)), (by first | rfl | (simp; done) | (simp [*]; done)), H', ⟨by have := HK1.out; have := HK2.out; have := HK3.out; omega⟩, by repeat (first | exact Drawn0.refl _ | apply Drawn0.step)⟩
                      · replace c16 := Bool.eq_false_iff.mpr c16
                        subst c16
                        rw [if_neg (show ¬ (false = true) by decide)] at H
                        have H' := Aside0.mk H
                        clear H
                        go_wp2
                        repeat (go_quiet (fail); try go_wp2)
                        go_roundg k3
                        case measure => have := HK1.out; have := HK2.out; have := HK3.out; omega
                        case rel => exact ⟨(x5_1), (wrap64 (x6_1 + 1)), (by first | rfl | (simp; done) | (simp [*]; done)), (by first | rfl | (simp; done) | (simp [*]; done)), H', ⟨by have := HK1.out; have := HK2.out; have := HK3.out; omega⟩, by repeat (first | exact Drawn0.refl _ | apply Drawn0.step)⟩
                    · replace c15 := Bool.eq_false_iff.mpr c15
                      subst c15
                      rw [if_neg (show ¬ (false = true) by decide)] at H
                      have H' := Aside0.mk H
                      clear H
                      go_wp2
                      repeat (go_quiet (fail); try go_wp2)
                      go_roundg k3
                      case measure => have := HK1.out; have := HK2.out; have := HK3.out; omega
                      case rel => exact ⟨(x5_1), (wrap64 (x6_1 + 1)), (by first | rfl | (simp; done) | (simp [*]; done)), (by first | rfl | (simp; done) | (simp [*]; done)), H', ⟨by have := HK1.out; have := HK2.out; have := HK3.out; omega⟩, by repeat (first | exact Drawn0.refl _ | apply Drawn0.step)⟩
      · rw [if_neg c3] at H
        have c3b0 : decide (x6_1 < (l0.length : Int)) = false := decide_eq_false c3
        clear c3
        obtain rfl := Option.some.inj H
        go_wp2
        repeat (go_quiet (fail); try go_wp2)
        go_ret
        exact ⟨by first | rfl | (simp; done) | (simp [*]; done), by repeat (first | exact Drawn0.refl _ | apply Drawn0.step)⟩
end Go.Proofs.Ytipjnfljkknmgaa.Q
