/- Part 5 of the proof of the row StripePicks: written for this claim by the session and by a program of its own. -/
import Derived.Test.YtipjnfljkknmgaaCStripePicksp2
import Derived.Test.YtipjnfljkknmgaaCStripePicksp4
import Derived.RangeFuncNested
import Derived.RangeFuncBound
import Derived.RangeFuncCalls
import Derived.RangeFuncLeaves
import Derived.RangeFuncFrom
import Derived.OwnWalkIn
import Derived.TacticsInMore
import Derived.LoopNIn
import Derived.LoopIn
namespace Go.Proofs.Ytipjnfljkknmgaa.Q
open Go.RowKit Go.Proofs.YtipjnfljkknmgaaW.PrintWords Go.Proofs.YtipjnfljkknmgaaW.PrintLast Go.Proofs.YtipjnfljkknmgaaW.PrintMore
set_option linter.unusedVariables false
set_option linter.unusedSimpArgs false
theorem own_C {α : Type} {d : Kd α} {e : Nat} {W : World} {b n c : Nat} {ok : Nat → Prop} {A : Option Addr} {xs : List α} (h : d.R e W b ok (.slice A n c) xs) : d.C W A xs.length xs ∧ xs.length ≤ c := by
  obtain ⟨A', c', he, hl, hr⟩ := Kd.R_reads h
  injection he with h1 h2 h3
  subst h1
  subst h3
  exact ⟨hr, hl⟩
def findI (p : S32 → Bool) : List S32 → Int → Int
  | [], _ => -1
  | x :: l, i => if p x = true then i else findI p l (i + 1)
theorem findI_any (p : S32 → Bool) (l : List S32) : ∀ i : Int, 0 ≤ i → decide (0 ≤ findI p l i) = l.any p := by
  induction l with
  | nil => intro i h; simp [findI]
  | cons x l ih =>
    intro i h
    rw [findI, List.any_cons]
    by_cases hp : p x = true
    · simp [hp, h]
    · simp only [hp, if_false, Bool.false_eq_true]
      rw [ih (i + 1) (by omega)]
      simp
theorem drop_rdP (l : List S32) (i : Nat) (h : i < l.length) : l.drop i = rd_T32 l (i : Int) :: l.drop (i + 1) := by
  rw [List.drop_eq_getElem_cons h]
  simp [rd_T32, List.getD_eq_getElem?_getD, List.getElem?_eq_getElem h]
set_option maxHeartbeats 2000000 in
set_option maxRecDepth 100000 in
theorem idxPick1_calls (p : S32 → Bool) (cap : Value) (A0 : Option Addr) (c0 : Nat) (l0 : List S32) (w0 w : World) (hB0 : Below w0.heap.size w0 w) (hr0 : Kd.C k32 w0 A0 l0.length l0)
    (hF : ∀ (W : World) (x : S32), Below w0.heap.size w0 W → Calls Try.prog 41 #[.agg #[.int .i64 x.f0, .int .u64 x.f1], cap] W fun e w' => e = .returned (.bool (p x)) ∧ Below W.heap.size W w') :
    Calls Try.prog 56 #[.slice A0 l0.length c0, .func (.func 41) #[] #[cap]] w fun e w' => e = .returned (.int .i64 (findI p l0 0)) ∧ Below w.heap.size w w' := by
  have HB := Aside0.mk (Below.refl w.heap.size w)
  have HR0 := Aside0.mk hr0
  have HB0 := Aside0.mk hB0
  have HF := Aside0.mk hF
  have hlen : l0.length ≤ 9223372036854775807 := hr0.2.1
  generalize hr : findI p l0 0 = r
  have Hr := Aside0.mk hr
  clear hr hr0 hB0 hF
  go_enter Try.func56, Try.ntmps56
  go_wp2
  go_loopg [8] l0.length (fun kq v8 w' => ∃ (i : Nat), v8 = .int .i64 i ∧ Aside0 (findI p (l0.drop i) i = r) ∧ Aside0 (i + kq = l0.length) ∧ Aside0 (Below w.heap.size w w'))
  case atStart => exact ⟨0, rfl, ⟨by simpa using Hr.out⟩, ⟨by omega⟩, HB⟩
  case round =>
    clear Hr HB
    obtain ⟨i, rfl, HG, HI, HB⟩ := hrel
    by_cases hlt : i < l0.length
    · obtain ⟨ad, e1, h0, h1⟩ := at_T32 HR0.out (i : Int) (by omega) (by omega)
      cases e1
      generalize hy : rd_T32 l0 (i : Int) = y at h0 h1
      have HY := Aside0.mk hy
      clear hy
      have hb1 := below_step HB0.out HB.out
      replace h0 := (hb1.cell (World.block_lt_of_cell? w0 _ h0)).trans h0
      replace h1 := (hb1.cell (World.block_lt_of_cell? w0 _ h1)).trans h1
      simp only [Int.toNat_natCast] at h0 h1
      clear hb1
      have HG2 : Aside0 ((if p y = true then (i : Int) else findI p (l0.drop (i + 1)) ((i : Int) + 1)) = r) := by
        have := HG.out
        rw [drop_rdP l0 i hlt, HY.out, findI] at this
        exact ⟨this⟩
      clear HG
      cases hp : p y with
      | true =>
        have HE : Aside0 ((i : Int) = r) := by have := HG2.out; rw [if_pos hp] at this; exact ⟨this⟩
        have HP := Aside0.mk hp
        clear HG2 hp
        go_wp2_with (first | (go_at_call 41; ((with_reducible refine (HF.out _ y (below_step HB0.out HB.out)).mono ?_); rintro e w2 ⟨rfl, hb⟩; rw [HP.out]; have n0_ := Aside0.mk (below_step HB.out hb); clear HB hb; have HB := n0_; clear n0_)))
        go_ret
        obtain rfl := HE.out
        exact ⟨rfl, HB.out⟩
      | false =>
        have HG : Aside0 (findI p (l0.drop (i + 1)) ((i : Int) + 1) = r) := by have := HG2.out; rw [if_neg (by simp [hp])] at this; exact ⟨this⟩
        have HP := Aside0.mk hp
        clear HG2 hp
        go_wp2_with (first | (go_at_call 41; ((with_reducible refine (HF.out _ y (below_step HB0.out HB.out)).mono ?_); rintro e w2 ⟨rfl, hb⟩; rw [HP.out]; have n0_ := Aside0.mk (below_step HB.out hb); clear HB hb; have HB := n0_; clear n0_)))
        go_roundg (l0.length - i - 1)
        case measure => have := HI.out; omega
        case rel => exact ⟨i + 1, by go_num, ⟨by have := HG.out; simpa using this⟩, ⟨by have := HI.out; omega⟩, HB⟩
    · have HE : Aside0 ((-1 : Int) = r) := by have := HG.out; rw [List.drop_eq_nil_of_le (by omega), findI] at this; exact ⟨this⟩
      have hge : decide ((i : Int) < (l0.length : Int)) = false := by simp; omega
      clear HG
      go_wp2
      go_ret
      obtain rfl := HE.out
      exact ⟨rfl, HB.out⟩
set_option maxHeartbeats 2000000 in
set_option maxRecDepth 100000 in
theorem hasPick1_calls (p : S32 → Bool) (cap : Value) (A0 : Option Addr) (c0 : Nat) (l0 : List S32) (w0 w : World) (hB0 : Below w0.heap.size w0 w) (hr0 : Kd.C k32 w0 A0 l0.length l0)
    (hF : ∀ (W : World) (x : S32), Below w0.heap.size w0 W → Calls Try.prog 41 #[.agg #[.int .i64 x.f0, .int .u64 x.f1], cap] W fun e w' => e = .returned (.bool (p x)) ∧ Below W.heap.size W w') :
    Calls Try.prog 40 #[.slice A0 l0.length c0, .func (.func 41) #[] #[cap]] w fun e w' => e = .returned (.bool (l0.any p)) ∧ Below w.heap.size w w' := by
  have HB := Aside0.mk (Below.refl w.heap.size w)
  have HI := Aside0.mk (idxPick1_calls p cap A0 c0 l0 w0 w hB0 hr0 hF)
  have hi := findI_any p l0 0 (by omega)
  generalize l0.any p = b at hi
  generalize findI p l0 0 = r at HI hi
  have Hi := Aside0.mk hi
  clear hi hB0 hr0 hF
  go_enter Try.func40, Try.ntmps40
  go_wp2_with (first | (go_at_call 56; ((with_reducible refine HI.out.mono ?_); rintro e w2 ⟨rfl, hb⟩; have n0_ := Aside0.mk (below_step HB.out hb); clear HB hb; have HB := n0_; clear n0_)))
  go_ret
  rw [← Hi.out]
  exact ⟨rfl, HB.out⟩
end Go.Proofs.Ytipjnfljkknmgaa.Q
namespace Go.Proofs.Ytipjnfljkknmgaa.Q
open Go.RowKit Go.Proofs.YtipjnfljkknmgaaW.PrintWords Go.Proofs.YtipjnfljkknmgaaW.PrintLast Go.Proofs.YtipjnfljkknmgaaW.PrintMore
set_option linter.unusedVariables false
set_option linter.unusedSimpArgs false
instance instDecS : DecidableEq S32 := fun a b =>
  if h : a.f0 = b.f0 ∧ a.f1 = b.f1 then isTrue (by cases a; cases b; simp_all) else isFalse (by rintro rfl; simp at h)
theorem S_ext {a b : S32} (h0 : a.f0 = b.f0) (h1 : a.f1 = b.f1) : a = b := by cases a; cases b; simp_all
theorem eqS (a b : Int) (x : S32) : (a == x.f0 && (b == x.f1)) = decide ((⟨a, b⟩ : S32) = x) := by
  rw [Bool.eq_iff_iff]
  simp only [Bool.and_eq_true, beq_iff_eq, decide_eq_true_eq]
  exact ⟨fun h => S_ext h.1 h.2, fun h => by subst h; exact ⟨rfl, rfl⟩⟩
theorem rdT_get (l : List S32) (i : Nat) (h : i < l.length) : rd_T32 l (i : Int) = l[i] := by simp [rd_T32, List.getD_eq_getElem?_getD, List.getElem?_eq_getElem h]
theorem w1 (i : Nat) (h : (i : Int) < 9223372036854775807) : wrap64 ((i : Int) + 1) = ((i + 1 : Nat) : Int) := by unfold wrap64; omega
theorem index_ev (l : List S32) (a b : Int) (hn : l.length ≤ 9223372036854775807) (d : Nat) : ∀ (k i : Nat), i + d = l.length → d < k →
    ∃ r, api_Place_43.l0 k l (l.length : Int) (i : Int) a b = some r ∧ decide (r ≥ 0) = decide ((⟨a, b⟩ : S32) ∈ l.drop i) := by
  induction d with
  | zero =>
    intro k i hi hk
    obtain ⟨k, rfl⟩ : ∃ m, k = m + 1 := ⟨k - 1, by omega⟩
    refine ⟨-1, ?_, ?_⟩
    · simp only [api_Place_43.l0]; rw [if_neg (by omega)]
    · rw [List.drop_eq_nil_of_le (by omega)]; simp
  | succ d ih =>
    intro k i hi hk
    obtain ⟨k, rfl⟩ : ∃ m, k = m + 1 := ⟨k - 1, by omega⟩
    have hlt : i < l.length := by omega
    simp only [api_Place_43.l0]
    rw [if_pos (by omega), if_pos (by omega), if_pos (by omega), rdT_get l i hlt, eqS, List.drop_eq_getElem_cons hlt]
    by_cases e : (⟨a, b⟩ : S32) = l[i]
    · rw [if_pos (by simpa using e)]
      exact ⟨i, rfl, by rw [decide_eq_true (by omega : (i : Int) ≥ 0), decide_eq_true (by rw [e]; exact List.mem_cons_self)]⟩
    · rw [if_neg (by simpa using e), w1 i (by omega)]
      obtain ⟨r, h1, h2⟩ := ih k (i + 1) (by omega) (by omega)
      refine ⟨r, h1, ?_⟩
      rw [h2]
      congr 1
      simp only [List.mem_cons, e, false_or]
theorem contains_ev (l : List S32) (a b : Int) (hn : l.length ≤ 9223372036854775807) (k : Nat) (hk : l.length < k) : api_Place_47.f k l a b = some (decide ((⟨a, b⟩ : S32) ∈ l)) := by
  obtain ⟨r, h1, h2⟩ := index_ev l a b hn l.length k 0 (by omega) hk
  unfold api_Place_47.f api_Place_43.f
  rw [show (0 : Int) = ((0 : Nat) : Int) from rfl, h1]
  simpa using h2
/-- How many of a set are among others, each once. -/
def cntGo (among : List S32) : List S32 → List S32 → Nat
  | _, [] => 0
  | pre, x :: r => (if x ∈ among ∧ x ∉ pre then 1 else 0) + cntGo among (pre ++ [x]) r
def cnt (set among : List S32) : Nat := cntGo among [] set
theorem count_go (set among : List S32) (hs : set.length ≤ 4611686018427387903) (ha : among.length ≤ 9223372036854775807) (d : Nat) : ∀ (k i n : Nat), i + d = set.length → n ≤ i → d + set.length + among.length < k →
    api_Place_38.l0 k set among (n : Int) set (set.length : Int) (i : Int) = some ((n + cntGo among (set.take i) (set.drop i) : Nat) : Int) := by
  induction d with
  | zero =>
    intro k i n hi hn hk
    obtain ⟨k, rfl⟩ : ∃ m, k = m + 1 := ⟨k - 1, by omega⟩
    simp only [api_Place_38.l0]
    rw [if_neg (by omega), List.drop_eq_nil_of_le (by omega), cntGo]
    rfl
  | succ d ih =>
    intro k i n hi hn hk
    obtain ⟨k, rfl⟩ : ∃ m, k = m + 1 := ⟨k - 1, by omega⟩
    have hlt : i < set.length := by omega
    simp only [api_Place_38.l0]
    rw [if_pos (by omega), if_pos (by omega), if_pos (by omega), rdT_get set i hlt, contains_ev among _ _ ha k (by omega), Option.bind_some]
    have htk : set.take (i + 1) = set.take i ++ [set[i]] := by rw [List.take_succ_eq_append_getElem hlt]
    rw [List.drop_eq_getElem_cons hlt, cntGo, ← htk]
    have he : (⟨set[i].f0, set[i].f1⟩ : S32) = set[i] := rfl
    rw [he]
    by_cases h1 : set[i] ∈ among
    · rw [if_pos (by simpa using h1), if_pos (by omega)]
      rw [show ((i : Int)).toNat = i from by omega, contains_ev (set.take i) _ _ (by rw [List.length_take]; omega) k (by rw [List.length_take]; omega), Option.bind_some, he]
      by_cases h2 : set[i] ∈ set.take i
      · rw [if_pos (by simpa using h2), w1 i (by omega), ih k (i + 1) n (by omega) (by omega) (by omega), if_neg (fun h => h.2 h2)]
        simp
      · rw [if_neg (by simpa using h2), w1 i (by omega), w1 n (by omega), ih k (i + 1) (n + 1) (by omega) (by omega) (by omega), if_pos ⟨h1, h2⟩]
        congr 2
        omega
    · rw [if_neg (by simpa using h1), w1 i (by omega), ih k (i + 1) n (by omega) (by omega) (by omega), if_neg (fun h => h1 h.1)]
      simp
theorem count_ev (set among : List S32) (hs : set.length ≤ 4611686018427387903) (ha : among.length ≤ 9223372036854775807) (k : Nat) (hk : 2 * set.length + among.length < k) : api_Place_38.f k set among = some ((cnt set among : Nat) : Int) := by
  have h := count_go set among hs ha set.length k 0 0 (by omega) (by omega) (by omega)
  unfold api_Place_38.f cnt
  simpa using h
/-- So many of a row from a number on, round. -/
def fromL (l : List S32) (k w : Nat) : List S32 := (List.range w).map fun i => l.getD ((k + i) % l.length) z32
theorem fromL_length (l : List S32) (k w : Nat) : (fromL l k w).length = w := by simp [fromL]
theorem fromL_succ (l : List S32) (k w : Nat) : fromL l k (w + 1) = fromL l k w ++ [l.getD ((k + w) % l.length) z32] := by simp [fromL, List.range_succ]
theorem from_go (l : List S32) (k w : Nat) (hl : 0 < l.length) (hlm : l.length ≤ 9223372036854775807) (hk : (k : Int) + w ≤ 9223372036854775807) (hw : w ≤ 8796093022208) (d : Nat) : ∀ (n i : Nat), i + d = w → d < n →
    api_Place_36.l0 n l (k : Int) (fromL l k i) (w : Int) (i : Int) = some (fromL l k w) := by
  induction d with
  | zero =>
    intro n i hi hn
    obtain ⟨n, rfl⟩ : ∃ m, n = m + 1 := ⟨n - 1, by omega⟩
    obtain rfl : i = w := by omega
    simp only [api_Place_36.l0]
    rw [if_neg (by omega)]
  | succ d ih =>
    intro n i hi hn
    obtain ⟨n, rfl⟩ : ∃ m, n = m + 1 := ⟨n - 1, by omega⟩
    have hwr : wrap64 ((k : Int) + i) = ((k + i : Nat) : Int) := by unfold wrap64; omega
    have hm : Int.tmod ((k + i : Nat) : Int) (l.length : Int) = (((k + i) % l.length : Nat) : Int) := by
      rw [Int.tmod_eq_emod_of_nonneg (by omega)]; rfl
    have hlt : (k + i) % l.length < l.length := Nat.mod_lt _ hl
    simp only [api_Place_36.l0]
    rw [if_pos (by omega), if_neg (by omega), hwr, hm, if_pos (by omega), if_pos (by omega), if_pos (by rw [fromL_length]; omega)]
    have he : (⟨(rd_T32 l (((k + i) % l.length : Nat) : Int)).f0, (rd_T32 l (((k + i) % l.length : Nat) : Int)).f1⟩ : S32) = l.getD ((k + i) % l.length) z32 := by
      simp only [rd_T32, Int.toNat_natCast]
    rw [he, ← fromL_succ, w1 i (by omega)]
    exact ih n (i + 1) (by omega) (by omega)
theorem from_ev (l : List S32) (k w : Nat) (hl : 0 < l.length) (hlm : l.length ≤ 9223372036854775807) (hk : (k : Int) + w ≤ 9223372036854775807) (hw : w ≤ 8796093022208) (n : Nat) (hn : w < n) : api_Place_36.f n l (k : Int) (w : Int) = some (fromL l k w) := by
  have h := from_go l k w hl hlm hk hw w n 0 (by omega) hn
  unfold api_Place_36.f
  simpa [fromL] using h
/-- Are so many of a set among others that those who are not cannot be a? -/
def missB (set : List S32) (w a : Int) (from_ : List S32) : Bool := if w < a then true else decide (wrap64 (w - a) < (cnt set from_ : Int))
theorem missing_ev (set : List S32) (w a : Int) (from_ : List S32) (hs : set.length ≤ 4611686018427387903) (ha : from_.length ≤ 9223372036854775807) (k : Nat) (hk : 2 * set.length + from_.length < k) : stripe_Missing.f k set w a from_ = some (missB set w a from_) := by
  unfold stripe_Missing.f missB
  split
  · rfl
  · rw [count_ev set from_ hs ha k hk]; rfl
end Go.Proofs.Ytipjnfljkknmgaa.Q
namespace Go.Proofs.Ytipjnfljkknmgaa.Range
open Go.RowKit
set_option linter.unusedVariables false
variable {P : Program} {α : Type}
/-- What abides the turn of a block that is no cells and lies at or beyond B. -/
def Abide (B : Nat) (J : World → Prop) : Prop := ∀ W W' row, J W → W.grownBy W' row → (∀ r, row = some r → B ≤ r ∧ ∃ o : Obj, W.heap[r]? = some o ∧ o.isCells = false) → J W'
theorem Abide.put {B : Nat} {J : World → Prop} (h : Abide B J) {W : World} {l : Nat} {o : Obj} (o' : Obj) (hs : J W) (hB : B ≤ l) (hl : W.heap[l]? = some o) (ho : o.isCells = false) : J (W.putObj l o') :=
  h W _ (some l) hs (grownBy_putObj' W l o') (fun r e => by cases e; exact ⟨hB, o, hl, ho⟩)
theorem Abide.alloc {B : Nat} {J : World → Prop} (h : Abide B J) {W : World} (o : Obj) (hs : J W) : J (W.alloc o) := h W _ none hs (World.grownBy_alloc W o none) (fun r e => by cases e)
theorem abide_below {n₀ B : Nat} {w₀ : World} (hn : n₀ ≤ w₀.heap.size) (hB : n₀ ≤ B) : Abide B (fun W => Below n₀ w₀ W) :=
  fun _ _ _ hs hg hr => hs.grown hg (Nat.le_trans hn hs.size) (fun k e => Nat.le_trans hB (hr k e).1)
/-- The iterator: it hands over value after value (encs x), of each of which Rx holds then; a round that goes on keeps what lay below n₀. -/
def SeqR (P : Program) (g : Nat) (lb : Array Value) (encs : α → Array Value) (n₀ : Nat) (Rx : Nat → α → World → Prop) (N : Nat) (w : World) : Prop :=
  ∀ (l : Nat) (J : Nat → World → Prop) (Jx : World → Prop) (W : World), Below w.heap.size w W → n₀ ≤ W.heap.size →
    (∀ k W1 W2, J k W1 → Below W1.heap.size W1 W2 → J k W2) →
    (∀ k x W1, J k W1 → Rx k x W1 → k < N → YieldAt Fence.wide 2 P l (encs x) W1 fun e W' =>
      (e = .returned (.bool true) ∧ J (k + 1) W' ∧ Below n₀ W1 W') ∨ (e = .returned (.bool false) ∧ Jx W')) →
    J 0 W →
    CallsIn Fence.wide 3 P g (#[.func (.yield l) #[] #[]] ++ lb) W fun e W' => (∃ v, e = .returned v) ∧ (J N W' ∨ Jx W')
/-- How the body of a round may be left. -/
def outR (n₀ : Nat) (I : Nat → World → Prop) (Ix : World → Prop) (k : Nat) (W : World) : Exit → Act → World → Prop
  | .normal, _, W' => KeepsOthers W W' ∧ Below n₀ W W' ∧ I k W'
  | .ret, _, W' => KeepsOthers W W' ∧ Ix W'
  | _, _, _ => False
theorem range_walk {g : Operand} {ps : Array Tmp} {assign body : Code} {Q : Exit → Act → World → Prop} {a : Act} {w : World}
    {gf : Nat} {lb : Array Value} (hg : a.eval g = .func (.func gf) #[] lb) (eg : ∀ args w, (callFunc gf args).run P w = .ok (.enter gf args) w)
    {encs : α → Array Value} {Rx : Nat → α → World → Prop} {N : Nat} (hseq : SeqR P gf lb encs w.heap.size Rx N w)
    (hps : ∀ x, (encs x).size = ps.size)
    (I : Nat → World → Prop) (Ix : World → Prop) (hI : ∀ k, Abide w.heap.size (I k)) (hIx : Abide w.heap.size Ix) (hIb : ∀ k W W', I k W → Below W.heap.size W W' → I k W') (hRx : ∀ k x, Abide w.heap.size (Rx k x)) (h0 : I 0 w) (a₁ : α → Act)
    (hassign : ∀ (l : Nat) (x : α) (W : World) (K : Act → World → Prop), K (a₁ x) W →
      assign.wpIn (Fence.wide.inRound l) 2 P (Exit.then K (fun _ _ _ => False)) { tmps := (ps.zip (encs x)).foldl (fun t (p, v) => t.setIfInBounds p v) a.tmps, defers := [] } W)
    (hbody : ∀ (l k : Nat) (x : α) (W : World), I k W → Rx k x W → k < N → body.wpIn (Fence.wide.inRound l) 2 P (outR w.heap.size I Ix (k + 1) W) (a₁ x) W)
    (hdone : ∀ (D : Nat) (W : World), w.heap.size ≤ D → I N W → W.heap[D]? = some (.deferred (some [])) → Q .normal { a with defers := { target := .collected D, args := #[] } :: a.defers } W)
    (hstop : ∀ (D : Nat) (W : World), w.heap.size ≤ D → Ix W → W.heap[D]? = some (.deferred (some [])) → Code.ret.wpIn Fence.wide 4 P Q { a with defers := { target := .collected D, args := #[] } :: a.defers } W) :
    (Code.rangeFunc g ps assign body).wpIn Fence.wide 4 P Q a w := by
  refine wpIn_rangeFunc ?_
  intro fn hfn
  rw [show Fence.wide.round = none from rfl]
  obtain ⟨rec, hrec⟩ : ∃ rec : LoopState → Option Code → Loop, rec = fun st pe => { state := st, pending := pe, fn, tmps := a.tmps, params := ps, assign, body, defers := w.heap.size } := ⟨_, rfl⟩
  obtain ⟨W1, hW1⟩ : ∃ W1, (w.alloc (.deferred (some []))).alloc (.loop (rec .ready none)) = W1 := ⟨_, rfl⟩
  have hL1 : W1.heap[w.heap.size + 1]? = some (.loop (rec .ready none)) := by
    rw [← hW1]
    have := World.alloc_heap_new (w.alloc (.deferred (some []))) (.loop (rec .ready none))
    rwa [World.size_alloc] at this
  have hK1 : W1.heap[w.heap.size]? = some (.deferred (some [])) := by
    rw [← hW1]
    exact (Below.heap_alloc _ _ _ (by simp)).trans (World.alloc_heap_new w _)
  have hb1 : Below w.heap.size w W1 := by rw [← hW1]; exact ((Below.refl _ w).alloc (Nat.le_refl _) _).alloc (by simp) _
  have hs1 : w.heap.size + 1 < W1.heap.size := (Array.getElem?_eq_some_iff.1 hL1).1
  have keep : ∀ {A B : World} {k : Nat} {o : Obj}, Below A.heap.size A B → A.heap[k]? = some o → B.heap[k]? = some o := fun hb h => (hb.block _ (Array.getElem?_eq_some_iff.1 h).1).trans h
  refine ⟨w.heap.size + 1, [{ target := .collected w.heap.size, args := #[] }], W1, { target := .fn (.func gf) lb, args := #[.func (.yield (w.heap.size + 1)) #[] #[]] }, W1, gf,
    #[.func (.yield (w.heap.size + 1)) #[] #[]] ++ lb, W1, ?_, ?_, ?_, ?_, fun _ => by omega, ?_⟩
  · rw [← hW1, hrec]; exact run_enterLoop_outer _ _ _ _ _
  · simp only [resolve, hg]
    simp [go_sem]
  · intro f' _; trivial
  · simp [invoke, go_sem, eg]
  · refine (hseq (w.heap.size + 1)
      (fun k W => (I k W ∧ Below w.heap.size w W) ∧ W.heap[w.heap.size + 1]? = some (.loop (rec .ready none)) ∧ W.heap[w.heap.size]? = some (.deferred (some [])))
      (fun W => Ix W ∧ W.heap[w.heap.size + 1]? = some (.loop (rec .done (some .ret))) ∧ W.heap[w.heap.size]? = some (.deferred (some [])))
      W1 hb1 (by omega)
      (fun k A B hj hb => ⟨⟨hIb k A B hj.1.1 hb, hj.1.2.trans (hb.mono hj.1.2.size)⟩, keep hb hj.2.1, keep hb hj.2.2⟩)
      ?_ ⟨⟨by rw [← hW1]; exact (hI 0).alloc _ ((hI 0).alloc _ h0), hb1⟩, hL1, hK1⟩).mono ?_
    · rintro k x W ⟨⟨hi, hbw⟩, hl, hk⟩ hx hlen
      have hlt : w.heap.size + 1 < W.heap.size := (Array.getElem?_eq_some_iff.1 hl).1
      have hy := run_yield (P := P) (args := encs x) hl (by rw [hrec]; exact hps x)
      rw [hrec] at hy
      refine ⟨fn, _, assign, body, hy, roundIn_of_wpIn hfn (hassign _ x W _ ⟨_, run_beginRound hl (by rw [hrec]), ?_⟩)⟩
      have hl2 : (W.putObj (w.heap.size + 1) (.loop { rec .ready none with state := .busy })).heap[w.heap.size + 1]? = some (.loop { rec .ready none with state := .busy }) := World.putObj_heap_same hlt
      have hk2 : (W.putObj (w.heap.size + 1) (.loop { rec .ready none with state := .busy })).heap[w.heap.size]? = some (.deferred (some [])) := (World.putObj_heap_other (by omega)).trans hk
      have hw2 : Below w.heap.size W (W.putObj (w.heap.size + 1) (.loop { rec .ready none with state := .busy })) := belowK_b (w := w) (Nat.le_refl _) W _ _ _ (by omega) hl rfl rfl
      refine wpIn_mono (hbody _ k x _ ((hI k).put _ hi (by omega) hl rfl) ((hRx k x).put _ hx (by omega) hl rfl) hlen) ?_
      have fin : ∀ (jump : Option Code) (W3 : World), KeepsOthers (W.putObj (w.heap.size + 1) (.loop { rec .ready none with state := .busy })) W3 →
          (Instr.endRound (w.heap.size + 1) jump).run P W3 = .ok (.bool jump.isNone) (W3.putObj (w.heap.size + 1) (.loop (rec (if jump.isNone then .ready else .done) jump))) ∧
          W3.heap[w.heap.size + 1]? = some (.loop { rec .ready none with state := .busy }) ∧
          (W3.putObj (w.heap.size + 1) (.loop (rec (if jump.isNone then .ready else .done) jump))).heap[w.heap.size + 1]? = some (.loop (rec (if jump.isNone then .ready else .done) jump)) ∧
          (W3.putObj (w.heap.size + 1) (.loop (rec (if jump.isNone then .ready else .done) jump))).heap[w.heap.size]? = some (.deferred (some [])) := fun jump W3 hk3 => by
        have hl3 := hk3.same _ _ hl2 rfl
        have := run_endRound (P := P) jump hl3
        rw [hrec] at this ⊢
        exact ⟨this, by rw [hrec] at hl3; exact hl3, World.putObj_heap_same (Array.getElem?_eq_some_iff.1 hl3).1, (World.putObj_heap_other (by omega)).trans (hk3.same _ _ hk2 rfl)⟩
      rintro e a3 W3 hp
      cases e with
      | normal =>
        obtain ⟨hk3, hkp3, hi3⟩ := hp
        obtain ⟨hr, hl3, hl4, hk4⟩ := fin none W3 hk3
        have hb4 : Below w.heap.size W3 (W3.putObj (w.heap.size + 1) (.loop (rec .ready none))) := belowK_b (w := w) (Nat.le_refl _) W3 _ _ _ (by omega) hl3 rfl rfl
        exact ⟨_, _, hr, .inl ⟨rfl, ⟨⟨(hI _).put _ hi3 (by omega) hl3 rfl, ((hbw.trans hw2).trans hkp3).trans hb4⟩, hl4, hk4⟩, (hw2.trans hkp3).trans hb4⟩⟩
      | ret =>
        obtain ⟨hk3, hi3⟩ := hp
        obtain ⟨hr, hl3, hl4, hk4⟩ := fin (some .ret) W3 hk3
        exact ⟨_, _, hr, .inr ⟨rfl, hIx.put _ hi3 (by omega) hl3 rfl, hl4, hk4⟩⟩
      | exit id => exact hp.elim
      | goto t => exact hp.elim
      | panic ch => exact hp.elim
      | outgrown => exact hp.elim
    · rintro e W2 ⟨⟨v, rfl⟩, (⟨⟨hi, _⟩, hl, hk⟩ | ⟨hi, hl, hk⟩)⟩
      · exact ⟨none, _, by have := run_endLoop (P := P) hl (by rw [hrec]; simp); rw [hrec] at this; exact this, hdone _ _ (Nat.le_refl _) ((hI _).put _ hi (by omega) hl rfl) ((World.putObj_heap_other (by omega)).trans hk)⟩
      · exact ⟨some .ret, _, by have := run_endLoop (P := P) hl (by rw [hrec]; simp); rw [hrec] at this; exact this, hstop _ _ (Nat.le_refl _) (hIx.put _ hi (by omega) hl rfl) ((World.putObj_heap_other (by omega)).trans hk)⟩
end Go.Proofs.Ytipjnfljkknmgaa.Range
namespace Go.Proofs.Ytipjnfljkknmgaa.Q
open Go.RowKit Go.Proofs.YtipjnfljkknmgaaW.PrintWords Go.Proofs.YtipjnfljkknmgaaW.PrintLast Go.Proofs.YtipjnfljkknmgaaW.PrintMore
set_option linter.unusedVariables false
set_option linter.unusedSimpArgs false
open Go.Proofs.Ytipjnfljkknmgaa.Range
attribute [local go_sem] Oper.semAt_some
def stripe_Covered.f (a0 : Int) (l0 : List S32) (a1 a2 : Int) (l3 : List S32) : Option Bool :=
  if a1 < 1 ∨ a1 > (l0.length : Int) then some false else if l0.length ≤ 8796093022208 then some ((List.range l0.length).all fun k => missB (fromL l0 k a1.toNat) a1 a2 l3) else none
set_option maxHeartbeats 2000000 in
set_option maxRecDepth 100000 in
/-- The iterator of stripe.sets: write set after write set, each in new memory. -/
theorem sets1_seq (f0 : Int) (A : Option Addr) (c : Nat) (l : List S32) (wn : Int) (S : Nat → List S32) (hS : ∀ k, k < l.length → ∃ n, api_Place_36.f n l (k : Int) wn = some (S k)) (gf gw : Nat) (w0 w : World) (n₀ : Nat) (hn0 : w0.heap.size ≤ n₀)
    (hbf : w.heap[gf]? = some (.cells #[.int .u64 f0, .slice A l.length c] 25 (0, 0))) (hbw : w.heap[gw]? = some (.cells #[.int .i64 wn] 3 (0, 0))) (hr : Kd.C k32 w0 A l.length l) (hc : l.length ≤ c) (hB0 : Below w0.heap.size w0 w) (hgf : gf < n₀) (hgw : gw < n₀) :
    SeqR Try.prog 54 #[.pointer (some ⟨gf, 0, none⟩), .pointer (some ⟨gw, 0, none⟩)] (fun x : Option Addr × Nat × Nat => #[.slice x.1 x.2.1 x.2.2]) n₀ (fun k x W => x.2.1 = (S k).length ∧ (S k).length ≤ x.2.2 ∧ k32.C W x.1 (S k).length (S k)) l.length w := by
  intro lb J Jx W hBW hnW hJ hY h0
  refine callsIn_of_wp Try.func54 rfl trivial ?_ rfl
  simp only [Try.ntmps54, List.size_toArray, List.length_cons, List.length_nil, Nat.reduceAdd, Nat.reduceSub, Array.replicate_succ, Array.replicate_zero, List.push_toArray, List.append_toArray, List.nil_append, List.cons_append]
  have hlen : l.length ≤ 9223372036854775807 := hr.2.1
  have BF := Aside0.mk (blk_below hbf hBW)
  have BW := Aside0.mk (blk_below hbw hBW)
  have HR := Aside0.mk hr
  have HS := Aside0.mk hS
  have HJ := Aside0.mk hJ
  have HY := Aside0.mk hY
  have H0 := Aside0.mk h0
  have HBW := Aside0.mk (below_step hB0 hBW)
  have HC := Aside0.mk hc
  clear hbf hbw hr hS hJ hY h0 hBW hB0 hc
  have c1 : W.cell? ⟨gf, 1, none⟩ = some (.slice A l.length c) := (blk_cell BF.out 1).trans rfl
  gi_wp2
  gi_loopw [8] (fun i wr => ∃ k : Nat, k ≤ l.length ∧ i = .int .i64 k ∧ Aside0 (J k wr) ∧ Aside0 (Below n₀ W wr))
    (fun i _ => l.length - (intOf i).toNat)
  case atStart => exact ⟨0, Nat.zero_le _, rfl, H0, ⟨Below.refl _ _⟩⟩
  case round =>
    clear c1
    obtain ⟨k, hk, rfl, HJk, HBn⟩ := hrel
    have BFr := Aside0.mk ((HBn.out.block gf hgf).trans BF.out)
    have BWr := Aside0.mk ((HBn.out.block gw hgw).trans BW.out)
    have c1 : wr.cell? ⟨gf, 1, none⟩ = some (.slice A l.length c) := (blk_cell BFr.out 1).trans rfl
    have c2 : wr.cell? ⟨gw, 0, none⟩ = some (.int .i64 wn) := (blk_cell BWr.out 0).trans rfl
    have HBr : Aside0 (Below w0.heap.size w0 wr) := ⟨HBW.out.trans (HBn.out.mono hn0)⟩
    have HSr : Aside0 (n₀ ≤ wr.heap.size) := ⟨Nat.le_trans hnW HBn.out.size⟩
    by_cases hlt : k < l.length
    · obtain ⟨nn, hn⟩ := HS.out k hlt
      have HN := Aside0.mk hn
      clear hn
      gi_wp2_with (fail)
      refine ⟨trivial, ?_⟩
      refine (callsIn_wide.2 (api_Place_36.calls nn A c l (k : Int) wn (S k) wr (Kd.C_below HR.out HBr.out) HC.out HN.out)).mono ?_
      rintro e W3 ⟨v, rfl, ho, hb3⟩
      obtain ⟨A', c', rfl, hlc, hC⟩ := Kd.R_reads ho
      have hJ3 := HJ.out k wr W3 HJk.out hb3
      obtain ⟨fn, tmps, assign, body, hy, hR⟩ := HY.out k (A', (S k).length, c') W3 hJ3 ⟨rfl, hlc, hC⟩ hlt
      dsimp only at hy
      have HB3 := Aside0.mk hb3
      clear hb3 hJ3 hC hlc ho
      gi_wp2
      refine hR.mono ?_
      rintro e W4 (⟨rfl, hJ4, hk4⟩ | ⟨rfl, hJx⟩)
      · have HJ4 := Aside0.mk hJ4
        have HK4 := Aside0.mk hk4
        clear hJ4 hk4 hy hR
        gi_wp2
        go_roundw
        case rel => exact ⟨k + 1, by omega, by simp, HJ4, ⟨(HBn.out.trans (HB3.out.mono HSr.out)).trans HK4.out⟩⟩
        case measure => simp [intOf]; omega
      · clear hy hR
        gi_wp2
        refine bodyPost_ret (results_none rfl _ _ _) rfl ?_
        exact ⟨⟨_, rfl⟩, .inr hJx⟩
    · obtain rfl : k = l.length := by omega
      gi_wp2
      go_end0
      exact ⟨⟨_, rfl⟩, .inl HJk.out⟩
set_option maxHeartbeats 2000000 in
set_option maxRecDepth 100000 in
theorem sets_calls (f0 : Int) (A : Option Addr) (n c : Nat) (wn : Int) (w : World) :
    Calls Try.prog 37 #[.agg #[.int .u64 f0, .slice A n c], .int .i64 wn] w fun e w' => ∃ gf gw, e = .returned (.func (.func 54) #[] #[.pointer (some ⟨gf, 0, none⟩), .pointer (some ⟨gw, 0, none⟩)]) ∧ w.heap.size ≤ gf ∧ w.heap.size ≤ gw ∧ gf < w'.heap.size ∧ gw < w'.heap.size ∧
      w'.heap[gf]? = some (.cells #[.int .u64 f0, .slice A n c] 25 (0, 0)) ∧ w'.heap[gw]? = some (.cells #[.int .i64 wn] 3 (0, 0)) ∧ Below w.heap.size w w' := by
  have HB := Aside0.mk (Below.refl w.heap.size w)
  go_enter Try.func37, Try.ntmps37
  go_wp2_with (first | ((with_reducible refine gate_dst (N := 2) rfl ?_); (refine box_event ?hg (N := 2) ?hd (cs := #[.int .u64 f0, .slice A n c]) (t := 25) ?hr ?_; (case hd => rfl); (case hg => rfl); (case hr => first | (go_simp; done) | (go_simp; rfl)); intro gf hg wf hbox hb; have z0_ := Aside0.mk (below_step HB.out hb); have z1_ := Aside0.mk (hbox); have z2_ := Aside0.mk (((by rw [hg]; exact (below_size HB.out)) : w.heap.size ≤ gf)); clear HB; have HB := z0_; clear z0_; have BKf := z1_; clear z1_; have GEf := z2_; clear z2_; clear hb hbox hg; have hcf_0 : wf.cell? ⟨gf, 0, none⟩ = some (.int .u64 f0) := (blk_cell BKf.out 0).trans rfl; have hff_0 := blk_frozen BKf.out 0; have hcf_1 : wf.cell? ⟨gf, 1, none⟩ = some (.slice A n c) := (blk_cell BKf.out 1).trans rfl; have hff_1 := blk_frozen BKf.out 1; skip)) | ((with_reducible refine gate_dst (N := 3) rfl ?_); (refine box_event ?hg (N := 3) ?hd (cs := #[.int .i64 wn]) (t := 3) ?hr ?_; (case hd => rfl); (case hg => rfl); (case hr => first | (go_simp; done) | (go_simp; rfl)); intro gw hg ww hbox hb; clear hcf_0 hff_0 hcf_1 hff_1; have z0_ := Aside0.mk (below_step HB.out hb); have z1_ := Aside0.mk (blk_below BKf.out hb); have z2_ := Aside0.mk (hbox); have z3_ := Aside0.mk (((by rw [hg]; exact (below_size HB.out)) : w.heap.size ≤ gw)); have z4_ := Aside0.mk (((fun e_ => by have := blk_lt BKf.out; omega) : gf ≠ gw)); have z5_ := Aside0.mk (((fun e_ => by have := blk_lt BKf.out; omega) : gw ≠ gf)); clear HB BKf; have HB := z0_; clear z0_; have BKf := z1_; clear z1_; have BKw := z2_; clear z2_; have GEw := z3_; clear z3_; have NEf_w := z4_; clear z4_; have NEw_f := z5_; clear z5_; clear hb hbox hg; have hcf_0 : ww.cell? ⟨gf, 0, none⟩ = some (.int .u64 f0) := (blk_cell BKf.out 0).trans rfl; have hff_0 := blk_frozen BKf.out 0; have hcf_1 : ww.cell? ⟨gf, 1, none⟩ = some (.slice A n c) := (blk_cell BKf.out 1).trans rfl; have hff_1 := blk_frozen BKf.out 1; have hcw_0 : ww.cell? ⟨gw, 0, none⟩ = some (.int .i64 wn) := (blk_cell BKw.out 0).trans rfl; have hfw_0 := blk_frozen BKw.out 0; skip)))
  go_ret
  exact ⟨gf, gw, rfl, GEf.out, GEw.out, blk_lt BKf.out, blk_lt BKw.out, BKf.out, BKw.out, HB.out⟩
theorem C_cells {W W' : World} {A : Option Addr} {n : Nat} {xs : List S32} (h : Kd.C k32 W A n xs) (hc : ∀ a v, W.cell? a = some v → W'.cell? a = some v) : Kd.C k32 W' A n xs := by
  obtain ⟨h1, h2, h3⟩ := h
  refine ⟨h1, h2, fun hn => ?_⟩
  obtain ⟨ad, e, hh⟩ := h3 hn
  refine ⟨ad, e, fun j p hj => ?_⟩
  obtain ⟨c, hl, hk, hx⟩ := hh j p hj
  refine ⟨c, hl, ?_, fun i u hi => hc _ _ (hx i u hi)⟩
  obtain rfl := k32_open hk
  exact k32_mk _ _
theorem abide_blk {B g : Nat} {cs : Array Value} {t : TypeId} : Abide B (fun W => W.heap[g]? = some (.cells cs t (0, 0))) :=
  fun W W' row h hg hr => (grownBy_keeps_cells hg (fun r e => (hr r e).2) h rfl).trans h
theorem abide_and {B : Nat} {J K : World → Prop} (h : Abide B J) (k : Abide B K) : Abide B (fun W => J W ∧ K W) := fun W W' row hs hg hr => ⟨h W W' row hs.1 hg hr, k W W' row hs.2 hg hr⟩
theorem abide_prop {B : Nat} {p : Prop} : Abide B (fun _ => p) := fun _ _ _ h _ _ => h
theorem five_blocks (w : World) (o1 o2 o3 o4 o5 : Obj) : ∃ W, ((((w.alloc o1).alloc o2).alloc o3).alloc o4).alloc o5 = W ∧ W.heap.size = w.heap.size + 5 ∧ W.heap[w.heap.size]? = some o1 ∧ W.heap[w.heap.size + 1]? = some o2 ∧ W.heap[w.heap.size + 1 + 1]? = some o3 ∧ W.heap[w.heap.size + 1 + 1 + 1]? = some o4 ∧ W.heap[w.heap.size + 1 + 1 + 1 + 1]? = some o5 ∧ Below w.heap.size w W := by
  refine ⟨_, rfl, by simp, ?_, ?_, ?_, ?_, ?_, ?_⟩
  · exact blk_alloc (blk_alloc (blk_alloc (blk_alloc (blk_new w o1) o2) o3) o4) o5
  · have := blk_new (w.alloc o1) o2; rw [World.size_alloc] at this; exact blk_alloc (blk_alloc (blk_alloc this o3) o4) o5
  · have := blk_new ((w.alloc o1).alloc o2) o3; rw [World.size_alloc, World.size_alloc] at this; exact blk_alloc (blk_alloc this o4) o5
  · have := blk_new (((w.alloc o1).alloc o2).alloc o3) o4; rw [World.size_alloc, World.size_alloc, World.size_alloc] at this; exact blk_alloc this o5
  · have := blk_new ((((w.alloc o1).alloc o2).alloc o3).alloc o4) o5; rw [World.size_alloc, World.size_alloc, World.size_alloc, World.size_alloc] at this; exact this
  · exact below_alloc (below_alloc (below_alloc (below_alloc (below_alloc (Below.refl _ _) _) _) _) _) _
set_option maxHeartbeats 4000000 in
set_option maxRecDepth 100000 in
theorem stripe_Covered.calls (a0_0 : Int) (A0_1 : Option Addr) (c0_1 : Nat) (l0_1 : List S32) (a1 a2 : Int) (A3 : Option Addr) (c3 : Nat) (l3 : List S32) (r : Bool) (w : World) (hr0_1 : Kd.C k32 w A0_1 l0_1.length l0_1) (hc0_1 : l0_1.length ≤ c0_1) (hr3 : Kd.C k32 w A3 l3.length l3) (hc3 : l3.length ≤ c3) (h : stripe_Covered.f a0_0 l0_1 a1 a2 l3 = some r) :
    Calls Try.prog 15 #[.agg #[.int .u64 a0_0, .slice A0_1 l0_1.length c0_1], .int .i64 a1, .int .i64 a2, .slice A3 l3.length c3] w fun e w' => e = .returned (.bool r) ∧ Below w.heap.size w w' := by
  have HR0 := Aside0.mk hr0_1
  have HC0 := Aside0.mk hc0_1
  have HR3 := Aside0.mk hr3
  have HC3 := Aside0.mk hc3
  have hlen : l0_1.length ≤ 9223372036854775807 := hr0_1.2.1
  clear hr0_1 hc0_1 hr3 hc3
  unfold stripe_Covered.f at h
  refine (callsIn_wide (n := 4)).1 ?_
  refine callsIn_of_wp_marks Try.func15 rfl trivial ?_ rfl
  simp only [Try.ntmps15, List.size_toArray, List.length_cons, List.length_nil, Nat.reduceAdd, Nat.reduceSub, Array.replicate_succ, Array.replicate_zero, List.push_toArray, List.append_toArray, List.nil_append, List.cons_append]
  by_cases h1 : a1 < 1
  · rw [if_pos (.inl h1)] at h
    obtain rfl := Option.some.inj h
    have d1 : decide (a1 < 1) = true := decide_eq_true h1
    clear h h1
    gi_wp2
    obtain ⟨W, hW, hsz, b4, b5, b6, b7, b8, hb⟩ := five_blocks w (.cells #[.int .u64 a0_0, .slice A0_1 l0_1.length c0_1] 25 (0, 0)) (.cells #[.int .i64 a1] 3 (0, 0)) (.cells #[.int .i64 a2] 3 (0, 0)) (.cells #[.slice A3 l3.length c3] 23 (0, 0)) (.cells #[.bool false] 4 (0, 0))
    rw [hW]
    refine ⟨.bool false, ?_, rfl, hb⟩
    have hc8 : W.cell? ⟨w.heap.size + 1 + 1 + 1 + 1, 0, none⟩ = some (.bool false) := (blk_cell b8 0).trans rfl
    simp [results, Try.f15, go_sem, hc8]
  · have d1 : decide (a1 < 1) = false := decide_eq_false h1
    by_cases h2 : a1 > (l0_1.length : Int)
    · rw [if_pos (.inr h2)] at h
      obtain rfl := Option.some.inj h
      have d2 : decide ((l0_1.length : Int) < a1) = true := decide_eq_true h2
      clear h h1 h2
      gi_wp2
      obtain ⟨W, hW, hsz, b4, b5, b6, b7, b8, hb⟩ := five_blocks w (.cells #[.int .u64 a0_0, .slice A0_1 l0_1.length c0_1] 25 (0, 0)) (.cells #[.int .i64 a1] 3 (0, 0)) (.cells #[.int .i64 a2] 3 (0, 0)) (.cells #[.slice A3 l3.length c3] 23 (0, 0)) (.cells #[.bool false] 4 (0, 0))
      rw [hW]
      refine ⟨.bool false, ?_, rfl, hb⟩
      have hc8 : W.cell? ⟨w.heap.size + 1 + 1 + 1 + 1, 0, none⟩ = some (.bool false) := (blk_cell b8 0).trans rfl
      simp [results, Try.f15, go_sem, hc8]
    · rw [if_neg (by rintro (h | h) <;> contradiction)] at h
      have d2 : decide ((l0_1.length : Int) < a1) = false := decide_eq_false h2
      split at h
      · rename_i hl
        have HL := Aside0.mk hl
        have H := Aside0.mk (Option.some.inj h)
        have HW := Aside0.mk (And.intro h1 h2)
        clear hl h h1 h2
        gi_wp2_with (fail)
        obtain ⟨W, hW, hsz, b4, b5, b6, b7, b8, hb⟩ := five_blocks w (.cells #[.int .u64 a0_0, .slice A0_1 l0_1.length c0_1] 25 (0, 0)) (.cells #[.int .i64 a1] 3 (0, 0)) (.cells #[.int .i64 a2] 3 (0, 0)) (.cells #[.slice A3 l3.length c3] 23 (0, 0)) (.cells #[.bool false] 4 (0, 0))
        rw [hW]
        refine ⟨trivial, ?_⟩
        refine (callsIn_wide.2 (sets_calls a0_0 A0_1 l0_1.length c0_1 a1 W)).mono ?_
        rintro e W2 ⟨gf, gw, rfl, gef, gew, lf, lw, bf, bw, hb2⟩
        have B5 := Aside0.mk (blk_below b5 hb2)
        have B6 := Aside0.mk (blk_below b6 hb2)
        have B7 := Aside0.mk (blk_below b7 hb2)
        have B8 := Aside0.mk (blk_below b8 hb2)
        have HBB := Aside0.mk (below_step hb hb2)
        have BF := Aside0.mk bf
        have BW := Aside0.mk bw
        have LF := Aside0.mk lf
        have LW := Aside0.mk lw
        have hs2 : w.heap.size + 5 ≤ W2.heap.size := by have := hb2.size; omega
        have HS2 := Aside0.mk hs2
        clear hW b4 b5 b6 b7 b8 hb hb2 bf bw lf lw gef gew hsz hs2
        generalize hg5 : w.heap.size + 1 = g5 at B5 B6 B7 B8 ⊢
        generalize hg6 : g5 + 1 = g6 at B6 B7 B8 ⊢
        generalize hg7 : g6 + 1 = g7 at B7 B8 ⊢
        generalize hg8 : g7 + 1 = g8 at B8 ⊢
        have GG := Aside0.mk (And.intro hg5 (And.intro hg6 (And.intro hg7 hg8)))
        clear hg5 hg6 hg7 hg8
        obtain ⟨wn, hwn⟩ : ∃ n : Nat, a1 = n := ⟨a1.toNat, by have := HW.out.1; omega⟩
        subst hwn
        rw [Int.toNat_natCast] at H
        gi_wp2_with (fail)
        refine range_walk (gf := 54) (lb := #[.pointer (some ⟨gf, 0, none⟩), .pointer (some ⟨gw, 0, none⟩)]) rfl (fun args w => enters_ Try.func54 (by kernel_rfl) rfl args w)
          (encs := fun x : Option Addr × Nat × Nat => #[.slice x.1 x.2.1 x.2.2]) (Rx := fun k x W => x.2.1 = (fromL l0_1 k wn).length ∧ (fromL l0_1 k wn).length ≤ x.2.2 ∧ k32.C W x.1 (fromL l0_1 k wn).length (fromL l0_1 k wn)) (N := l0_1.length)
          (sets1_seq a0_0 A0_1 c0_1 l0_1 (wn : Int) (fun k => fromL l0_1 k wn) (fun k hk => ⟨wn + 1, from_ev l0_1 k wn (by omega) hlen (by have := HL.out; have := HW.out.2; omega) (by have := HL.out; have := HW.out.2; omega) _ (by omega)⟩) gf gw w W2 _ HBB.out.size BF.out BW.out HR0.out HC0.out HBB.out LF.out LW.out)
          (fun _ => rfl)
          (fun k W => ((∀ j, j < k → missB (fromL l0_1 j wn) wn a2 l3 = true) ∧ W.heap[g5]? = some (.cells #[.int .i64 wn] 3 (0, 0)) ∧ W.heap[g6]? = some (.cells #[.int .i64 a2] 3 (0, 0)) ∧ W.heap[g7]? = some (.cells #[.slice A3 l3.length c3] 23 (0, 0)) ∧ W.heap[g8]? = some (.cells #[.bool false] 4 (0, 0)) ∧ W2.heap.size ≤ W.heap.size) ∧ Below w.heap.size w W)
          (fun W => (r = false ∧ W.heap[g8]? = some (.cells #[.bool false] 4 (0, 0))) ∧ Below w.heap.size w W)
          (fun k => abide_and (abide_and abide_prop (abide_and abide_blk (abide_and abide_blk (abide_and abide_blk (abide_and abide_blk (fun W W' row h hg hr => Nat.le_trans h hg.size)))))) (abide_below (Nat.le_refl _) HBB.out.size))
          (abide_and (abide_and abide_prop abide_blk) (abide_below (Nat.le_refl _) HBB.out.size))
          (fun k W W' h hb => ⟨⟨h.1.1, blk_below h.1.2.1 hb, blk_below h.1.2.2.1 hb, blk_below h.1.2.2.2.1 hb, blk_below h.1.2.2.2.2.1 hb, Nat.le_trans h.1.2.2.2.2.2 hb.size⟩, below_step h.2 hb⟩)
          (fun k x => abide_and abide_prop (abide_and abide_prop (fun W W' row h hg hr => C_cells h (fun a v hc => cell_kept hc hg (fun r e => (hr r e).2)))))
          ⟨⟨fun j hj => absurd hj (by omega), B5.out, B6.out, B7.out, B8.out, Nat.le_refl _⟩, HBB.out⟩
          (fun x => { tmps := #[.agg #[.int .u64 a0_0, .slice A0_1 l0_1.length c0_1], .int .i64 wn, .int .i64 a2, .slice A3 l3.length c3, .pointer (some ⟨w.heap.size, 0, none⟩), .pointer (some ⟨g5, 0, none⟩), .pointer (some ⟨g6, 0, none⟩), .pointer (some ⟨g7, 0, none⟩), .pointer (some ⟨g8, 0, none⟩), .slice x.1 x.2.1 x.2.2, .int .i64 wn, .bool false, .bool false, .int .i64 wn, .pointer (some ⟨w.heap.size, 1, none⟩), .slice A0_1 l0_1.length c0_1, .int .i64 l0_1.length, .bool false, .bool false, .agg #[.int .u64 a0_0, .slice A0_1 l0_1.length c0_1], .int .i64 wn, .func (.func 54) #[] #[.pointer (some ⟨gf, 0, none⟩), .pointer (some ⟨gw, 0, none⟩)], .slice x.1 x.2.1 x.2.2, undef, undef, undef, undef, undef, undef], defers := [] }) ?assign ?body ?done ?stop
        case assign =>
          intro l x W K hK
          gi_wp2
          exact hK
        case body =>
          rintro l k ⟨A, n, c⟩ W ⟨⟨hm, c5, c6, c7, c8, hsz⟩, hb⟩ ⟨rfl, hle, hC⟩ hk
          dsimp only at hle hC ⊢
          have HM := Aside0.mk hm
          have C5 := Aside0.mk c5
          have C6 := Aside0.mk c6
          have C7 := Aside0.mk c7
          have C8 := Aside0.mk c8
          have HBW := Aside0.mk hb
          have HCW := Aside0.mk hC
          have HLE := Aside0.mk hle
          have e5 : W.cell? ⟨g5, 0, none⟩ = some (.int .i64 wn) := (blk_cell c5 0).trans rfl
          have e6 : W.cell? ⟨g6, 0, none⟩ = some (.int .i64 a2) := (blk_cell c6 0).trans rfl
          have e7 : W.cell? ⟨g7, 0, none⟩ = some (.slice A3 l3.length c3) := (blk_cell c7 0).trans rfl
          obtain ⟨m, hmm⟩ : ∃ m, m = missB (fromL l0_1 k wn) wn a2 l3 := ⟨_, rfl⟩
          have HMM := Aside0.mk (missing_ev (fromL l0_1 k wn) wn a2 l3 (by rw [fromL_length]; have := HL.out; have := HW.out.2; omega) HR3.out.2.1 _ (Nat.lt_succ_self _))
          rw [← hmm] at HMM
          have HMQ := Aside0.mk hmm
          clear hm c5 c6 c7 c8 hb hC hle hmm
          have HSZ := Aside0.mk hsz
          clear hsz
          cases m with
          | true =>
            gi_wp2_with (refine ⟨trivial, ?_⟩; gi_at_call 19; refine (CallsIn.inRound l (callsIn_wide.2 (stripe_Missing.calls _ A c (fromL l0_1 k wn) wn a2 A3 c3 l3 true W HCW.out HLE.out (Kd.C_below HR3.out HBW.out) HC3.out HMM.out))).mono ?_; rintro e W3 ⟨rfl, hb3⟩; have HB3 := Aside0.mk hb3; clear hb3 e5 e6 e7)
            exact ⟨⟨HB3.out.size, fun q o hq _ => (HB3.out.block q (blk_lt hq)).trans hq⟩, HB3.out.mono HSZ.out, ⟨fun j hj => by
              by_cases e : j = k
              · subst e; exact HMQ.out.symm
              · exact HM.out j (by omega), blk_below C5.out HB3.out, blk_below C6.out HB3.out, blk_below C7.out HB3.out, blk_below C8.out HB3.out, Nat.le_trans HSZ.out HB3.out.size⟩, below_step HBW.out HB3.out⟩
          | false =>
            gi_wp2_with (refine ⟨trivial, ?_⟩; gi_at_call 19; refine (CallsIn.inRound l (callsIn_wide.2 (stripe_Missing.calls _ A c (fromL l0_1 k wn) wn a2 A3 c3 l3 false W HCW.out HLE.out (Kd.C_below HR3.out HBW.out) HC3.out HMM.out))).mono ?_; rintro e W3 ⟨rfl, hb3⟩; have HB3 := Aside0.mk hb3; have e8 : W3.cell? ⟨g8, 0, none⟩ = some (.bool false) := (blk_cell (blk_below C8.out hb3) 0).trans rfl; have f8 := blk_frozen (blk_below C8.out hb3) 0; clear hb3 e5 e6 e7)
            have hr : r = false := by
              rw [← H.out]
              rw [List.all_eq_false]
              exact ⟨k, List.mem_range.2 hk, by rw [← HMQ.out]; simp⟩
            exact ⟨KeepsOthers.trans ⟨HB3.out.size, fun q o hq _ => (HB3.out.block q (blk_lt hq)).trans hq⟩ (KeepsOthers.setCell _ _ _), ⟨hr, blk_put (blk_below C8.out HB3.out) 0 _ rfl⟩, below_set (below_step HBW.out HB3.out) (by have := GG.out; omega)⟩
        case done =>
          rintro D W hD ⟨⟨hm, c5, c6, c7, c8, hsz⟩, hb⟩ hK
          have hr : r = true := by
            rw [← H.out, List.all_eq_true]
            exact fun j hj => hm j (List.mem_range.1 hj)
          have C8 := Aside0.mk c8
          have HBW := Aside0.mk hb
          have HK := Aside0.mk hK
          have HRR := Aside0.mk hr
          have HD := Aside0.mk hD
          have e8 : W.cell? ⟨g8, 0, none⟩ = some (.bool false) := (blk_cell c8 0).trans rfl
          have f8 := blk_frozen c8 0
          clear hm c5 c6 c7 c8 hsz hb hK hr hD
          gi_wp2
          have hK' := (KeepsOthers.setCell W ⟨g8, 0, none⟩ (.bool true)).same D _ HK.out rfl
          refine ⟨by simp, .inl ⟨_, _, rfl, run_takeDeferred hK', ?_⟩⟩
          have hc5 := cell_kept ((blk_cell (blk_put C8.out 0 (.bool true) rfl) 0).trans rfl : (W.setCell ⟨g8, 0, none⟩ (.bool true)).cell? ⟨g8, 0, none⟩ = some (.bool true)) (grownBy_putObj' _ D (.deferred none)) (fun r e => by cases e; exact ⟨_, hK', rfl⟩)
          refine ⟨.bool true, ?_, by rw [HRR.out], (below_set HBW.out (by have := GG.out; omega)).trans (belowK_b (w := w) (Nat.le_refl _) _ D _ _ (by have := HD.out; have := HBB.out.size; omega) hK' rfl rfl)⟩
          simp [results, Try.f15, go_sem, hc5]
        case stop =>
          rintro D W hD ⟨⟨hr, c8⟩, hb⟩ hK
          have C8 := Aside0.mk c8
          have HBW := Aside0.mk hb
          have HK := Aside0.mk hK
          have HRR := Aside0.mk hr
          have HD := Aside0.mk hD
          clear c8 hb hK hr hD
          gi_wp2
          refine ⟨by simp, .inl ⟨_, _, rfl, run_takeDeferred HK.out, ?_⟩⟩
          have hc5 := cell_kept ((blk_cell C8.out 0).trans rfl : W.cell? ⟨g8, 0, none⟩ = some (.bool false)) (grownBy_putObj' _ D (.deferred none)) (fun r e => by cases e; exact ⟨_, HK.out, rfl⟩)
          refine ⟨.bool false, ?_, by rw [HRR.out], HBW.out.trans (belowK_b (w := w) (Nat.le_refl _) _ D _ _ (by have := HD.out; have := HBB.out.size; omega) HK.out rfl rfl)⟩
          simp [results, Try.f15, go_sem, hc5]
      · exact absurd h (by simp)
end Go.Proofs.Ytipjnfljkknmgaa.Q
namespace Go.Proofs.Ytipjnfljkknmgaa.Q
open Go.RowKit Go.Proofs.YtipjnfljkknmgaaW.PrintWords Go.Proofs.YtipjnfljkknmgaaW.PrintLast Go.Proofs.YtipjnfljkknmgaaW.PrintMore
attribute [local go_sem] max2_int min2_int max_two min_two max_three min_three max_four min_four   -- for this text's walks alone
set_option linter.unusedVariables false
set_option linter.unusedSimpArgs false
def slices_Index_int_int.l0 : Nat → List Int → Int → Int → Int → Option (Int)
  | 0, _, _, _, _ => none
  | k + 1, x0, x1, x7, x8 => if x8 < x7 then (if 0 ≤ x8 then (if x8 < (x0.length : Int) then (if x1 = (rd x0 x8) then (some x8) else (slices_Index_int_int.l0 k x0 x1 x7 (wrap64 (x8 + 1)))) else (none)) else (none)) else (some (-1))
def slices_Index_int_int.f (k : Nat) (l0 : List Int) (a1 : Int) : Option (Int) := slices_Index_int_int.l0 k l0 a1 (l0.length : Int) 0
set_option maxHeartbeats 8000000 in
set_option maxRecDepth 100000 in
theorem slices_Index_int_int.calls (k : Nat) (A0 : Option Addr) (c0 : Nat) (l0 : List Int) (a1 : Int) (r : Int) (w : World) (hr0 : Kd.C (Kd.int .i64) w A0 l0.length l0) (hc0 : l0.length ≤ c0) (h : slices_Index_int_int.f k l0 a1 = some r) :
    Calls Try.prog 57 #[.slice A0 l0.length c0, .int .i64 a1] w fun e w' => e = .returned (.int .i64 r) ∧ Drawn0 w w' := by
  have HR0 := Aside0.mk hr0
  have HC0 := Aside0.mk hc0
  clear hr0 hc0
  have H : (slices_Index_int_int.l0 k l0 a1 (l0.length : Int) 0) = some r := h
  clear h
  have H' := Aside0.mk H
  clear H
  go_enter Try.func57, Try.ntmps57
  go_wp2
  go_loopg [8] k (fun kq v8 w' => ∃ (x8_1 : Int), v8 = .int .i64 x8_1 ∧ Aside0 (slices_Index_int_int.l0 kq l0 a1 (l0.length : Int) x8_1 = some r) ∧ Aside0 (kq ≤ k) ∧ Drawn0 w w')
  case atStart => exact ⟨(0), (by first | rfl | (simp; done) | (simp [*]; done)), H', ⟨Nat.le_refl _⟩, by repeat (first | exact Drawn0.refl _ | apply Drawn0.step)⟩
  case round =>
    clear H'
    try clear p2
    obtain ⟨x8_1, rfl, HA, HK1, ⟨m1, rfl⟩⟩ := hrel
    cases gk with
    | zero => exact absurd HA.out (by simp [slices_Index_int_int.l0])
    | succ k1 =>
      have H := HA.out
      clear HA
      simp only [slices_Index_int_int.l0] at H
      by_cases c3 : x8_1 < (l0.length : Int)
      · rw [if_pos c3] at H
        have c3b0 : decide (x8_1 < (l0.length : Int)) = true := decide_eq_true c3
        clear c3
        by_cases c4 : 0 ≤ x8_1
        · rw [if_pos c4] at H
          have c4b0 : decide (0 ≤ x8_1) = true := decide_eq_true c4
          clear c4
          by_cases c5 : x8_1 < (l0.length : Int)
          · rw [if_pos c5] at H
            have c5b0 : decide (x8_1 < (l0.length : Int)) = true := decide_eq_true c5
            clear c5
            by_cases c6 : a1 = (rd l0 x8_1)
            · rw [if_pos c6] at H
              have c6b0 : (a1 == (rd l0 x8_1)) = true := beq_iff_eq.mpr c6
              have c6b1 : (a1 != (rd l0 x8_1)) = false := bne_eq_false_iff_eq.mpr c6
              clear c6
              obtain rfl := Option.some.inj H
              have p140 : 0 ≤ (x8_1 : Int) := of_decide_eq_true (by first | (with_reducible assumption) | assumption)
              have q140 : x8_1 < (l0.length : Int) := of_decide_eq_true (by first | (with_reducible assumption) | assumption)
              obtain ⟨ad140, e140, hx140_0⟩ := Kd.at_int HR0.out x8_1 p140 q140
              cases e140
              replace p140 := eq_true p140
              replace q140 := eq_true q140
              go_wp2
              go_ret
              exact ⟨by first | rfl | (simp; done) | (simp [*]; done), by repeat (first | exact Drawn0.refl _ | apply Drawn0.step)⟩
            · rw [if_neg c6] at H
              have c6b0 : (a1 == (rd l0 x8_1)) = false := beq_eq_false_iff_ne.mpr c6
              have c6b1 : (a1 != (rd l0 x8_1)) = true := bne_iff_ne.mpr c6
              have H' := Aside0.mk H
              clear H
              have p140 : 0 ≤ (x8_1 : Int) := of_decide_eq_true (by first | (with_reducible assumption) | assumption)
              have q140 : x8_1 < (l0.length : Int) := of_decide_eq_true (by first | (with_reducible assumption) | assumption)
              obtain ⟨ad140, e140, hx140_0⟩ := Kd.at_int HR0.out x8_1 p140 q140
              cases e140
              replace p140 := eq_true p140
              replace q140 := eq_true q140
              go_wp2
              go_roundg k1
              case measure => have := HK1.out; omega
              case rel => exact ⟨(wrap64 (x8_1 + 1)), (by first | rfl | (simp; done) | (simp [*]; done)), H', ⟨by have := HK1.out; omega⟩, by repeat (first | exact Drawn0.refl _ | apply Drawn0.step)⟩
          · rw [if_neg c5] at H
            exact absurd H (by simp)
        · rw [if_neg c4] at H
          exact absurd H (by simp)
      · rw [if_neg c3] at H
        have c3b0 : decide (x8_1 < (l0.length : Int)) = false := decide_eq_false c3
        clear c3
        obtain rfl := Option.some.inj H
        go_wp2
        go_ret
        exact ⟨by first | rfl | (simp; done) | (simp [*]; done), by repeat (first | exact Drawn0.refl _ | apply Drawn0.step)⟩
end Go.Proofs.Ytipjnfljkknmgaa.Q
namespace Go.Proofs.Ytipjnfljkknmgaa.Q
open Go.RowKit Go.Proofs.YtipjnfljkknmgaaW.PrintWords Go.Proofs.YtipjnfljkknmgaaW.PrintLast Go.Proofs.YtipjnfljkknmgaaW.PrintMore
attribute [local go_sem] max2_int min2_int max_two min_two max_three min_three max_four min_four   -- for this text's walks alone
set_option linter.unusedVariables false
set_option linter.unusedSimpArgs false
def slices_Contains_int_int.f (k : Nat) (l0 : List Int) (a1 : Int) : Option (Bool) := (slices_Index_int_int.f k l0 a1).bind fun t141 => (some (decide (t141 ≥ 0)))
set_option maxHeartbeats 8000000 in
set_option maxRecDepth 100000 in
theorem slices_Contains_int_int.calls (k : Nat) (A0 : Option Addr) (c0 : Nat) (l0 : List Int) (a1 : Int) (r : Bool) (w : World) (hr0 : Kd.C (Kd.int .i64) w A0 l0.length l0) (hc0 : l0.length ≤ c0) (h : slices_Contains_int_int.f k l0 a1 = some r) :
    Calls Try.prog 42 #[.slice A0 l0.length c0, .int .i64 a1] w fun e w' => e = .returned (.bool r) ∧ Drawn0 w w' := by
  have HR0 := Aside0.mk hr0
  have HC0 := Aside0.mk hc0
  clear hr0 hc0
  have H : ((slices_Index_int_int.f k l0 a1).bind fun t141 => (some (decide (t141 ≥ 0)))) = some r := h
  clear h
  replace H := Option.bind_eq_some_iff.mp H
  obtain ⟨t141, A30, H⟩ := H
  replace H : (some (decide (t141 ≥ 0))) = some r := H
  have A3 := Aside0.mk A30
  clear A30
  obtain rfl := Option.some.inj H
  go_enter Try.func42, Try.ntmps42
  go_wp2_with (first | ((with_reducible refine gate_callee (f := 57) rfl ?_); refine goesL_ (some 7) rfl rfl Try.func57 (by kernel_rfl) rfl #[.slice A0 l0.length c0, .int .i64 a1] rfl (by (try simp only [List.map_toArray, List.map_cons, List.map_nil]); first | done | rfl | (simp only [List.length_drop, List.length_take]; rfl)) ?_; (with_reducible refine (slices_Index_int_int.calls k _ _ l0 a1 t141 _ ?side1 ?side2 A3.out).mono ?_); (case side1 => repeat (first | exact HR0.out | (with_reducible refine Kd.C_alloc ?_ _) | (with_reducible refine Kd.C_drewN ?_ _) | (with_reducible refine Kd.C_drew ?_))); (case side2 => exact HC0.out); rintro e w' ⟨rfl, ⟨nd, rfl⟩⟩; refine ⟨_, rfl, ?_⟩))
  go_ret
  exact ⟨by first | rfl | (simp; done) | (simp [*]; done), by repeat (first | exact Drawn0.refl _ | apply Drawn0.step)⟩
end Go.Proofs.Ytipjnfljkknmgaa.Q
namespace Go.Proofs.Ytipjnfljkknmgaa.Q
open Go.RowKit Go.Proofs.YtipjnfljkknmgaaW.PrintWords Go.Proofs.YtipjnfljkknmgaaW.PrintLast Go.Proofs.YtipjnfljkknmgaaW.PrintMore
set_option linter.unusedVariables false
set_option linter.unusedSimpArgs false
theorem indexInt_ev (l : List Int) (a : Int) (hn : l.length ≤ 9223372036854775807) (d : Nat) : ∀ (k i : Nat), i + d = l.length → d < k → ∃ r, slices_Index_int_int.l0 k l a (l.length : Int) (i : Int) = some r ∧ decide (r ≥ 0) = (l.drop i).contains a := by
  induction d with
  | zero =>
    intro k i hi hk
    obtain ⟨k, rfl⟩ : ∃ m, k = m + 1 := ⟨k - 1, by omega⟩
    refine ⟨-1, ?_, ?_⟩
    · simp only [slices_Index_int_int.l0]; rw [if_neg (by omega)]
    · rw [List.drop_eq_nil_of_le (by omega)]; simp
  | succ d ih =>
    intro k i hi hk
    obtain ⟨k, rfl⟩ : ∃ m, k = m + 1 := ⟨k - 1, by omega⟩
    have hlt : i < l.length := by omega
    have hr : rd l (i : Int) = l[i] := by simp [rd, List.getD_eq_getElem?_getD, List.getElem?_eq_getElem hlt]
    simp only [slices_Index_int_int.l0]
    rw [if_pos (by omega), if_pos (by omega), if_pos (by omega), List.drop_eq_getElem_cons hlt, hr]
    by_cases e : a = l[i]
    · rw [if_pos e]
      exact ⟨i, rfl, by rw [List.contains_cons, e, beq_self_eq_true, Bool.true_or]; exact decide_eq_true (by omega)⟩
    · rw [if_neg e]
      have hw : wrap64 ((i : Int) + 1) = ((i + 1 : Nat) : Int) := by unfold wrap64; omega
      rw [hw]
      obtain ⟨r, h1, h2⟩ := ih k (i + 1) (by omega) (by omega)
      exact ⟨r, h1, by rw [h2, List.contains_cons, show (a == l[i]) = false from by simp [e], Bool.false_or]⟩
theorem containsInt_ev (l : List Int) (a : Int) (hn : l.length ≤ 9223372036854775807) : ∃ k, slices_Contains_int_int.f k l a = some (l.contains a) := by
  obtain ⟨r, h1, h2⟩ := indexInt_ev l a hn l.length (l.length + 1) 0 (by omega) (by omega)
  refine ⟨l.length + 1, ?_⟩
  unfold slices_Contains_int_int.f slices_Index_int_int.f
  rw [show (0 : Int) = ((0 : Nat) : Int) from rfl, h1]
  simpa using h2
def pickGo (e : Int) (no : List Int) : List S32 → List S32 → List S32
  | [], l => l
  | x :: r, l => pickGo e no r (if (l.length : Int) < e ∧ l.any (fun y => y.f0 == x.f0) = false ∧ no.contains x.f0 = false then l ++ [x] else l)
def stripe_Pick.f (l0 : List S32) (a1 a2 : Int) (l3 : List Int) : Option (List S32 × Int) :=
  if a2 < 1 ∨ a2 > a1 ∨ a1 > 5 then some ([], 1) else if ((pickGo a1 l3 l0 []).length : Int) < a2 then some ([], 3) else some (pickGo a1 l3 l0 [], 0)
set_option maxHeartbeats 2000000 in
set_option maxRecDepth 100000 in
theorem pick1_calls (y0 y1 x0 x1 : Int) (gx : Nat) (w : World) (hb : w.heap[gx]? = some (.cells #[.int .i64 x0, .int .u64 x1] 32 (0, 0))) :
    Calls Try.prog 41 #[.agg #[.int .i64 y0, .int .u64 y1], .pointer (some ⟨gx, 0, none⟩)] w fun e w' => e = .returned (.bool (y0 == x0)) ∧ Below w.heap.size w w' := by
  have HB := Aside0.mk (Below.refl w.heap.size w)
  have hc0 : w.cell? ⟨gx, 0, none⟩ = some (.int .i64 x0) := (blk_cell hb 0).trans rfl
  have hlt := blk_lt hb
  go_enter Try.func41, Try.ntmps41
  go_wp2
  go_ret
  exact ⟨rfl, (by repeat (first | (with_reducible first | exact HB.out | apply below_alloc | apply pw_below_drewN | apply below_drew1) | exact HB.out))⟩
set_option maxHeartbeats 8000000 in
set_option maxRecDepth 100000 in
theorem stripe_Pick.calls (A0 : Option Addr) (c0 : Nat) (l0 : List S32) (a1 a2 : Int) (A3 : Option Addr) (c3 : Nat) (l3 : List Int) (r1 : List S32) (r2 : Int) (w : World) (hr0 : Kd.C k32 w A0 l0.length l0) (hc0 : l0.length ≤ c0) (hr3 : Kd.C (Kd.int .i64) w A3 l3.length l3) (hc3 : l3.length ≤ c3) (h : stripe_Pick.f l0 a1 a2 l3 = some (r1, r2)) :
    Calls Try.prog 22 #[.slice A0 l0.length c0, .int .i64 a1, .int .i64 a2, .slice A3 l3.length c3] w fun e w' => ∃ v0_ : Value, e = .returned (.tuple #[v0_, .int .i64 r2]) ∧ Kd.R k32 32 w' w.heap.size (fun _ => True) v0_ r1 ∧ Below w.heap.size w w' := by
  have HB := Aside0.mk (Below.refl w.heap.size w)
  have HR0 := Aside0.mk hr0
  have HR3 := Aside0.mk hr3
  have HC3 := Aside0.mk hc3
  have hlen : l0.length ≤ 9223372036854775807 := hr0.2.1
  have HL3 := Aside0.mk hr3.2.1
  unfold stripe_Pick.f at h
  clear hr0 hr3 hc3 hc0
  by_cases h1 : a2 < 1
  · rw [if_pos (.inl h1)] at h
    simp only [Option.some.injEq, Prod.mk.injEq] at h
    obtain ⟨rfl, rfl⟩ := h
    have d1 : decide (a2 < 1) = true := decide_eq_true h1
    clear h1
    go_enter Try.func22, Try.ntmps22
    go_wp2
    go_ret2
    exact ⟨_, rfl, Kd.R_nil _ _ _ _ _, HB.out⟩
  · by_cases h2 : a2 > a1
    · rw [if_pos (.inr (.inl h2))] at h
      simp only [Option.some.injEq, Prod.mk.injEq] at h
      obtain ⟨rfl, rfl⟩ := h
      have d1 : decide (a2 < 1) = false := decide_eq_false h1
      have d2 : decide (a1 < a2) = true := decide_eq_true h2
      clear h1 h2
      go_enter Try.func22, Try.ntmps22
      go_wp2
      go_ret2
      exact ⟨_, rfl, Kd.R_nil _ _ _ _ _, HB.out⟩
    · by_cases h3 : a1 > 5
      · rw [if_pos (.inr (.inr h3))] at h
        simp only [Option.some.injEq, Prod.mk.injEq] at h
        obtain ⟨rfl, rfl⟩ := h
        have d1 : decide (a2 < 1) = false := decide_eq_false h1
        have d2 : decide (a1 < a2) = false := decide_eq_false h2
        have d3 : decide (5 < a1) = true := decide_eq_true h3
        clear h1 h2 h3
        go_enter Try.func22, Try.ntmps22
        go_wp2
        go_ret2
        exact ⟨_, rfl, Kd.R_nil _ _ _ _ _, HB.out⟩
      · rw [if_neg (by rintro (h | h | h) <;> contradiction)] at h
        have d1 : decide (a2 < 1) = false := decide_eq_false h1
        have d2 : decide (a1 < a2) = false := decide_eq_false h2
        have d3 : decide (5 < a1) = false := decide_eq_false h3
        generalize hr : pickGo a1 l3 l0 [] = r at h
        have Hr := Aside0.mk hr
        have H := Aside0.mk h
        clear hr h h1 h2
        go_enter Try.func22, Try.ntmps22
        go_wp2
        go_loopg [10, 27] l0.length (fun kq v10 v27 w' => ∃ (i : Nat) (l : List S32), v27 = .int .i64 i ∧ Aside0 (pickGo a1 l3 (l0.drop i) l = r) ∧ Aside0 (i + kq = l0.length) ∧ Aside0 (Kd.R k32 32 w' w.heap.size (fun _ => True) v10 l) ∧ Aside0 (Below w.heap.size w w'))
        case atStart => exact ⟨0, [], rfl, ⟨by simpa using Hr.out⟩, ⟨by omega⟩, ⟨Kd.R_nil _ _ _ _ _⟩, HB⟩
        case round =>
          clear Hr HB
          obtain ⟨i, l, rfl, HG, HI, HO0, HB⟩ := hrel
          obtain ⟨A, c, rfl, hlc, hC⟩ := Kd.R_reads HO0.out
          have HC := Aside0.mk hC
          have HLC := Aside0.mk hlc
          have HO := HO0
          clear HO0 hC hlc
          have hll : l.length ≤ 9223372036854775807 := HC.out.2.1
          by_cases hlt : i < l0.length
          · obtain ⟨ad, e1, h0, h1⟩ := at_T32 HR0.out (i : Int) (by omega) (by omega)
            cases e1
            generalize hy : rd_T32 l0 (i : Int) = y at h0 h1
            have HY := Aside0.mk hy
            clear hy
            replace h0 := (HB.out.cell (World.block_lt_of_cell? w _ h0)).trans h0
            replace h1 := (HB.out.cell (World.block_lt_of_cell? w _ h1)).trans h1
            simp only [Int.toNat_natCast] at h0 h1
            have HG2 : Aside0 (pickGo a1 l3 (l0.drop (i + 1)) (if (l.length : Int) < a1 ∧ l.any (fun z => z.f0 == y.f0) = false ∧ l3.contains y.f0 = false then l ++ [y] else l) = r) := by
              have := HG.out
              rw [drop_rdP l0 i hlt, HY.out, pickGo] at this
              exact ⟨this⟩
            clear HG
            obtain ⟨kk, hk⟩ := containsInt_ev l3 y.f0 HL3.out
            have HK := Aside0.mk hk
            clear hk
            generalize hs : l.any (fun z => z.f0 == y.f0) = b at HG2
            generalize hn : l3.contains y.f0 = n at HG2 HK
            have HS := Aside0.mk hs
            have HN := Aside0.mk hn
            clear hs hn
            by_cases g1 : (l.length : Int) < a1
            · have e4 : decide ((l.length : Int) < a1) = true := decide_eq_true g1
              have G1 := Aside0.mk g1
              have D3 := Aside0.mk (of_decide_eq_false d3)
              clear g1
              cases b with
              | true =>
                have HG : Aside0 (pickGo a1 l3 (l0.drop (i + 1)) l = r) := by have := HG2.out; rw [if_neg (by simp)] at this; exact ⟨this⟩
                clear HG2
                go_wp2_with (first | ((with_reducible refine gate_dst (N := 12) rfl ?_); (refine box_event ?hg (N := 12) ?hd (cs := #[.int .i64 0, .int .u64 0]) (t := 32) ?hr ?_; (case hd => rfl); (case hg => rfl); (case hr => first | (go_simp; done) | (go_simp; rfl)); intro gx hg wx hbox hb; have z0_ := Aside0.mk (below_step HB.out hb); have z1_ := Aside0.mk ((Kd.R_mono (Kd.R_below (Kd.R_bound HO.out) hb) (fun k_ hk => ⟨hk.1, fun e_ => by have := hk.2.2.1; omega⟩) : Kd.R k32 32 wx w.heap.size (fun k_ : Nat => (True) ∧ k_ ≠ gx) (.slice A l.length c) (l))); have z2_ := Aside0.mk (hbox); have z3_ := Aside0.mk (((by rw [hg]; exact (below_size HB.out)) : w.heap.size ≤ gx)); clear HB HO; have HB := z0_; clear z0_; have HO := z1_; clear z1_; have BKx := z2_; clear z2_; have GEx := z3_; clear z3_; clear hb hbox hg; have hcx_0 : wx.cell? ⟨gx, 0, none⟩ = some (.int .i64 0) := (blk_cell BKx.out 0).trans rfl; have hfx_0 := blk_frozen BKx.out 0; have hcx_1 : wx.cell? ⟨gx, 1, none⟩ = some (.int .u64 0) := (blk_cell BKx.out 1).trans rfl; have hfx_1 := blk_frozen BKx.out 1; skip)) | ((with_reducible refine gate_store (t := 32) (p := 12) rfl ?_); (refine store_event (t := 32) (p := 12) (v := ?vo_wa) (w1 := ((wx.setCell ⟨gx, 0, none⟩ (.int .i64 y.f0)).setCell ⟨gx, 1, none⟩ (.int .u64 y.f1))) ?hg ?ho ?hn ?hr ?_; (case ho => rfl); (case hg => rfl); (case hn => rfl); (case hr => first | (go_simp; done) | (go_simp; rfl)); intro wa hw; clear hcx_0 hfx_0 hcx_1 hfx_1; have z0_ := Aside0.mk ((by rw [hw]; exact (below_set (below_set HB.out GEx.out) GEx.out) : Below w.heap.size w wa)); have z1_ := Aside0.mk ((by rw [hw]; exact (blk_put ((blk_put (BKx.out) 0 _ rfl)) 1 _ rfl) : wa.heap[gx]? = some (.cells #[.int .i64 y.f0, .int .u64 y.f1] 32 (0, 0)))); have z2_ := Aside0.mk ((by rw [hw]; exact Kd.R_mono (Kd.R_far (p := ⟨gx, 1, none⟩) (Kd.R_far (p := ⟨gx, 0, none⟩) HO.out (fun _ hk => hk.2) _) (fun _ hk => hk.2) _) (fun _ hk => hk) : Kd.R k32 32 wa w.heap.size (fun k_ : Nat => (True) ∧ k_ ≠ gx) (.slice A l.length c) (l))); clear HB BKx HO; have HB := z0_; clear z0_; have BKx := z1_; clear z1_; have HO := z2_; clear z2_; clear hw; have hcx_0 : wa.cell? ⟨gx, 0, none⟩ = some (.int .i64 y.f0) := (blk_cell BKx.out 0).trans rfl; have hfx_0 := blk_frozen BKx.out 0; have hcx_1 : wa.cell? ⟨gx, 1, none⟩ = some (.int .u64 y.f1) := (blk_cell BKx.out 1).trans rfl; have hfx_1 := blk_frozen BKx.out 1; skip)) | (go_at_call 40; ((with_reducible refine (hasPick1_calls (fun z => z.f0 == y.f0) (.pointer (some ⟨gx, 0, none⟩)) A c l wa wa (Below.refl _ _) (own_C HO.out).1 (fun W' z hb' => pick1_calls z.f0 z.f1 y.f0 y.f1 gx W' (blk_below BKx.out hb'))).mono ?_); rintro e wb ⟨rfl, hb⟩; rw [HS.out]; clear hcx_0 hfx_0 hcx_1 hfx_1; have z0_ := Aside0.mk (below_step HB.out hb); have z1_ := Aside0.mk (blk_below BKx.out hb); have z2_ := Aside0.mk (Kd.R_below HO.out hb); clear HB BKx HO; have HB := z0_; clear z0_; have BKx := z1_; clear z1_; have HO := z2_; clear z2_; clear hb; have hcx_0 : wb.cell? ⟨gx, 0, none⟩ = some (.int .i64 y.f0) := (blk_cell BKx.out 0).trans rfl; have hfx_0 := blk_frozen BKx.out 0; have hcx_1 : wb.cell? ⟨gx, 1, none⟩ = some (.int .u64 y.f1) := (blk_cell BKx.out 1).trans rfl; have hfx_1 := blk_frozen BKx.out 1; skip)))
                go_roundg (l0.length - i - 1)
                case measure => have := HI.out; omega
                case rel => exact ⟨i + 1, l, by go_num, HG, ⟨by have := HI.out; omega⟩, ⟨(Kd.R_mono HO.out (fun _ _ => trivial))⟩, HB⟩
              | false =>
                cases n with
                | true =>
                  have HG : Aside0 (pickGo a1 l3 (l0.drop (i + 1)) l = r) := by have := HG2.out; rw [if_neg (by simp)] at this; exact ⟨this⟩
                  clear HG2
                  go_wp2_with (first | ((with_reducible refine gate_dst (N := 12) rfl ?_); (refine box_event ?hg (N := 12) ?hd (cs := #[.int .i64 0, .int .u64 0]) (t := 32) ?hr ?_; (case hd => rfl); (case hg => rfl); (case hr => first | (go_simp; done) | (go_simp; rfl)); intro gx hg wx hbox hb; have z0_ := Aside0.mk (below_step HB.out hb); have z1_ := Aside0.mk ((Kd.R_mono (Kd.R_below (Kd.R_bound HO.out) hb) (fun k_ hk => ⟨hk.1, fun e_ => by have := hk.2.2.1; omega⟩) : Kd.R k32 32 wx w.heap.size (fun k_ : Nat => (True) ∧ k_ ≠ gx) (.slice A l.length c) (l))); have z2_ := Aside0.mk (hbox); have z3_ := Aside0.mk (((by rw [hg]; exact (below_size HB.out)) : w.heap.size ≤ gx)); clear HB HO; have HB := z0_; clear z0_; have HO := z1_; clear z1_; have BKx := z2_; clear z2_; have GEx := z3_; clear z3_; clear hb hbox hg; have hcx_0 : wx.cell? ⟨gx, 0, none⟩ = some (.int .i64 0) := (blk_cell BKx.out 0).trans rfl; have hfx_0 := blk_frozen BKx.out 0; have hcx_1 : wx.cell? ⟨gx, 1, none⟩ = some (.int .u64 0) := (blk_cell BKx.out 1).trans rfl; have hfx_1 := blk_frozen BKx.out 1; skip)) | ((with_reducible refine gate_store (t := 32) (p := 12) rfl ?_); (refine store_event (t := 32) (p := 12) (v := ?vo_wa) (w1 := ((wx.setCell ⟨gx, 0, none⟩ (.int .i64 y.f0)).setCell ⟨gx, 1, none⟩ (.int .u64 y.f1))) ?hg ?ho ?hn ?hr ?_; (case ho => rfl); (case hg => rfl); (case hn => rfl); (case hr => first | (go_simp; done) | (go_simp; rfl)); intro wa hw; clear hcx_0 hfx_0 hcx_1 hfx_1; have z0_ := Aside0.mk ((by rw [hw]; exact (below_set (below_set HB.out GEx.out) GEx.out) : Below w.heap.size w wa)); have z1_ := Aside0.mk ((by rw [hw]; exact (blk_put ((blk_put (BKx.out) 0 _ rfl)) 1 _ rfl) : wa.heap[gx]? = some (.cells #[.int .i64 y.f0, .int .u64 y.f1] 32 (0, 0)))); have z2_ := Aside0.mk ((by rw [hw]; exact Kd.R_mono (Kd.R_far (p := ⟨gx, 1, none⟩) (Kd.R_far (p := ⟨gx, 0, none⟩) HO.out (fun _ hk => hk.2) _) (fun _ hk => hk.2) _) (fun _ hk => hk) : Kd.R k32 32 wa w.heap.size (fun k_ : Nat => (True) ∧ k_ ≠ gx) (.slice A l.length c) (l))); clear HB BKx HO; have HB := z0_; clear z0_; have BKx := z1_; clear z1_; have HO := z2_; clear z2_; clear hw; have hcx_0 : wa.cell? ⟨gx, 0, none⟩ = some (.int .i64 y.f0) := (blk_cell BKx.out 0).trans rfl; have hfx_0 := blk_frozen BKx.out 0; have hcx_1 : wa.cell? ⟨gx, 1, none⟩ = some (.int .u64 y.f1) := (blk_cell BKx.out 1).trans rfl; have hfx_1 := blk_frozen BKx.out 1; skip)) | (go_at_call 40; ((with_reducible refine (hasPick1_calls (fun z => z.f0 == y.f0) (.pointer (some ⟨gx, 0, none⟩)) A c l wa wa (Below.refl _ _) (own_C HO.out).1 (fun W' z hb' => pick1_calls z.f0 z.f1 y.f0 y.f1 gx W' (blk_below BKx.out hb'))).mono ?_); rintro e wb ⟨rfl, hb⟩; rw [HS.out]; clear hcx_0 hfx_0 hcx_1 hfx_1; have z0_ := Aside0.mk (below_step HB.out hb); have z1_ := Aside0.mk (blk_below BKx.out hb); have z2_ := Aside0.mk (Kd.R_below HO.out hb); clear HB BKx HO; have HB := z0_; clear z0_; have BKx := z1_; clear z1_; have HO := z2_; clear z2_; clear hb; have hcx_0 : wb.cell? ⟨gx, 0, none⟩ = some (.int .i64 y.f0) := (blk_cell BKx.out 0).trans rfl; have hfx_0 := blk_frozen BKx.out 0; have hcx_1 : wb.cell? ⟨gx, 1, none⟩ = some (.int .u64 y.f1) := (blk_cell BKx.out 1).trans rfl; have hfx_1 := blk_frozen BKx.out 1; skip)) | (go_at_call 42; ((with_reducible refine (slices_Contains_int_int.calls kk A3 c3 l3 y.f0 _ wb (Kd.C_below HR3.out HB.out) HC3.out HK.out).mono ?_); rintro e wc ⟨rfl, hb⟩; replace hb := hb.below; clear hcx_0 hfx_0 hcx_1 hfx_1; have z0_ := Aside0.mk (below_step HB.out hb); have z1_ := Aside0.mk (blk_below BKx.out hb); have z2_ := Aside0.mk (Kd.R_below HO.out hb); clear HB BKx HO; have HB := z0_; clear z0_; have BKx := z1_; clear z1_; have HO := z2_; clear z2_; clear hb; have hcx_0 : wc.cell? ⟨gx, 0, none⟩ = some (.int .i64 y.f0) := (blk_cell BKx.out 0).trans rfl; have hfx_0 := blk_frozen BKx.out 0; have hcx_1 : wc.cell? ⟨gx, 1, none⟩ = some (.int .u64 y.f1) := (blk_cell BKx.out 1).trans rfl; have hfx_1 := blk_frozen BKx.out 1; skip)))
                  go_roundg (l0.length - i - 1)
                  case measure => have := HI.out; omega
                  case rel => exact ⟨i + 1, l, by go_num, HG, ⟨by have := HI.out; omega⟩, ⟨(Kd.R_mono HO.out (fun _ _ => trivial))⟩, HB⟩
                | false =>
                  have HG : Aside0 (pickGo a1 l3 (l0.drop (i + 1)) (l ++ [y]) = r) := by have := HG2.out; rw [if_pos ⟨G1.out, rfl, rfl⟩] at this; exact ⟨this⟩
                  clear HG2
                  go_wp2_with (first | ((with_reducible refine gate_dst (N := 12) rfl ?_); (refine box_event ?hg (N := 12) ?hd (cs := #[.int .i64 0, .int .u64 0]) (t := 32) ?hr ?_; (case hd => rfl); (case hg => rfl); (case hr => first | (go_simp; done) | (go_simp; rfl)); intro gx hg wx hbox hb; have z0_ := Aside0.mk (below_step HB.out hb); have z1_ := Aside0.mk ((Kd.R_mono (Kd.R_below (Kd.R_bound HO.out) hb) (fun k_ hk => ⟨hk.1, fun e_ => by have := hk.2.2.1; omega⟩) : Kd.R k32 32 wx w.heap.size (fun k_ : Nat => (True) ∧ k_ ≠ gx) (.slice A l.length c) (l))); have z2_ := Aside0.mk (hbox); have z3_ := Aside0.mk (((by rw [hg]; exact (below_size HB.out)) : w.heap.size ≤ gx)); clear HB HO; have HB := z0_; clear z0_; have HO := z1_; clear z1_; have BKx := z2_; clear z2_; have GEx := z3_; clear z3_; clear hb hbox hg; have hcx_0 : wx.cell? ⟨gx, 0, none⟩ = some (.int .i64 0) := (blk_cell BKx.out 0).trans rfl; have hfx_0 := blk_frozen BKx.out 0; have hcx_1 : wx.cell? ⟨gx, 1, none⟩ = some (.int .u64 0) := (blk_cell BKx.out 1).trans rfl; have hfx_1 := blk_frozen BKx.out 1; skip)) | ((with_reducible refine gate_store (t := 32) (p := 12) rfl ?_); (refine store_event (t := 32) (p := 12) (v := ?vo_wa) (w1 := ((wx.setCell ⟨gx, 0, none⟩ (.int .i64 y.f0)).setCell ⟨gx, 1, none⟩ (.int .u64 y.f1))) ?hg ?ho ?hn ?hr ?_; (case ho => rfl); (case hg => rfl); (case hn => rfl); (case hr => first | (go_simp; done) | (go_simp; rfl)); intro wa hw; clear hcx_0 hfx_0 hcx_1 hfx_1; have z0_ := Aside0.mk ((by rw [hw]; exact (below_set (below_set HB.out GEx.out) GEx.out) : Below w.heap.size w wa)); have z1_ := Aside0.mk ((by rw [hw]; exact (blk_put ((blk_put (BKx.out) 0 _ rfl)) 1 _ rfl) : wa.heap[gx]? = some (.cells #[.int .i64 y.f0, .int .u64 y.f1] 32 (0, 0)))); have z2_ := Aside0.mk ((by rw [hw]; exact Kd.R_mono (Kd.R_far (p := ⟨gx, 1, none⟩) (Kd.R_far (p := ⟨gx, 0, none⟩) HO.out (fun _ hk => hk.2) _) (fun _ hk => hk.2) _) (fun _ hk => hk) : Kd.R k32 32 wa w.heap.size (fun k_ : Nat => (True) ∧ k_ ≠ gx) (.slice A l.length c) (l))); clear HB BKx HO; have HB := z0_; clear z0_; have BKx := z1_; clear z1_; have HO := z2_; clear z2_; clear hw; have hcx_0 : wa.cell? ⟨gx, 0, none⟩ = some (.int .i64 y.f0) := (blk_cell BKx.out 0).trans rfl; have hfx_0 := blk_frozen BKx.out 0; have hcx_1 : wa.cell? ⟨gx, 1, none⟩ = some (.int .u64 y.f1) := (blk_cell BKx.out 1).trans rfl; have hfx_1 := blk_frozen BKx.out 1; skip)) | (go_at_call 40; ((with_reducible refine (hasPick1_calls (fun z => z.f0 == y.f0) (.pointer (some ⟨gx, 0, none⟩)) A c l wa wa (Below.refl _ _) (own_C HO.out).1 (fun W' z hb' => pick1_calls z.f0 z.f1 y.f0 y.f1 gx W' (blk_below BKx.out hb'))).mono ?_); rintro e wb ⟨rfl, hb⟩; rw [HS.out]; clear hcx_0 hfx_0 hcx_1 hfx_1; have z0_ := Aside0.mk (below_step HB.out hb); have z1_ := Aside0.mk (blk_below BKx.out hb); have z2_ := Aside0.mk (Kd.R_below HO.out hb); clear HB BKx HO; have HB := z0_; clear z0_; have BKx := z1_; clear z1_; have HO := z2_; clear z2_; clear hb; have hcx_0 : wb.cell? ⟨gx, 0, none⟩ = some (.int .i64 y.f0) := (blk_cell BKx.out 0).trans rfl; have hfx_0 := blk_frozen BKx.out 0; have hcx_1 : wb.cell? ⟨gx, 1, none⟩ = some (.int .u64 y.f1) := (blk_cell BKx.out 1).trans rfl; have hfx_1 := blk_frozen BKx.out 1; skip)) | (go_at_call 42; ((with_reducible refine (slices_Contains_int_int.calls kk A3 c3 l3 y.f0 _ wb (Kd.C_below HR3.out HB.out) HC3.out HK.out).mono ?_); rintro e wc ⟨rfl, hb⟩; replace hb := hb.below; clear hcx_0 hfx_0 hcx_1 hfx_1; have z0_ := Aside0.mk (below_step HB.out hb); have z1_ := Aside0.mk (blk_below BKx.out hb); have z2_ := Aside0.mk (Kd.R_below HO.out hb); clear HB BKx HO; have HB := z0_; clear z0_; have BKx := z1_; clear z1_; have HO := z2_; clear z2_; clear hb; have hcx_0 : wc.cell? ⟨gx, 0, none⟩ = some (.int .i64 y.f0) := (blk_cell BKx.out 0).trans rfl; have hfx_0 := blk_frozen BKx.out 0; have hcx_1 : wc.cell? ⟨gx, 1, none⟩ = some (.int .u64 y.f1) := (blk_cell BKx.out 1).trans rfl; have hfx_1 := blk_frozen BKx.out 1; skip)) | ((with_reducible refine gate_builtin (b := .append) (xs := #[.tmp 49, .tmp 51]) rfl ?_); at_builtin; (refine Kd.R_append k32 (w0 := w) w.heap.size rfl (.tmp 49) (.tmp 51) 23 32 (.agg #[(.int .i64 0), (.int .u64 0)]) 16 rfl Try.underlying23 info32 rfl (by decide) (by omega) (.slice A l.length c) (l) (y) [.int .i64 y.f0, .int .u64 y.f1] (fun k_ : Nat => (True) ∧ k_ ≠ gx) (fun _ => False) rfl rfl ?aP (fun _ hk => hk.elim) ?aF ?aO ?aB ?aS ?aL ?_; (case aP => exact k32_mkM _ _ _ y); (case aF => exact (fun k_ hk => ⟨trivial, fun e_ => by have := blk_lt BKx.out; omega⟩)); (case aO => exact HO.out); (case aB => exact HB.out); (case aS => exact below_size HB.out); (case aL => have := G1.out; have := D3.out; omega); intro v2 wd ho hb hg hat; clear hcx_0 hfx_0 hcx_1 hfx_1; have z0_ := Aside0.mk (hb); have z1_ := Aside0.mk (ho); have z2_ := Aside0.mk (blk_grown BKx.out hg (fun e_ => (HO.out.1 _ e_.symm).2 rfl)); clear HB HO BKx; have HB := z0_; clear z0_; have HO := z1_; clear z1_; have BKx := z2_; clear z2_; clear ho hb hg hat; have hcx_0 : wd.cell? ⟨gx, 0, none⟩ = some (.int .i64 y.f0) := (blk_cell BKx.out 0).trans rfl; have hfx_0 := blk_frozen BKx.out 0; have hcx_1 : wd.cell? ⟨gx, 1, none⟩ = some (.int .u64 y.f1) := (blk_cell BKx.out 1).trans rfl; have hfx_1 := blk_frozen BKx.out 1; skip)))
                  go_roundg (l0.length - i - 1)
                  case measure => have := HI.out; omega
                  case rel => exact ⟨i + 1, l ++ [y], by go_num, HG, ⟨by have := HI.out; omega⟩, ⟨(Kd.R_mono HO.out (fun _ _ => trivial))⟩, HB⟩
            · have e4 : decide ((l.length : Int) < a1) = false := decide_eq_false g1
              have HG : Aside0 (pickGo a1 l3 (l0.drop (i + 1)) l = r) := by have := HG2.out; rw [if_neg (fun h => g1 h.1)] at this; exact ⟨this⟩
              clear HG2 g1
              go_wp2_with (first | ((with_reducible refine gate_dst (N := 12) rfl ?_); (refine box_event ?hg (N := 12) ?hd (cs := #[.int .i64 0, .int .u64 0]) (t := 32) ?hr ?_; (case hd => rfl); (case hg => rfl); (case hr => first | (go_simp; done) | (go_simp; rfl)); intro gx hg wx hbox hb; have z0_ := Aside0.mk (below_step HB.out hb); have z1_ := Aside0.mk ((Kd.R_mono (Kd.R_below (Kd.R_bound HO.out) hb) (fun k_ hk => ⟨hk.1, fun e_ => by have := hk.2.2.1; omega⟩) : Kd.R k32 32 wx w.heap.size (fun k_ : Nat => (True) ∧ k_ ≠ gx) (.slice A l.length c) (l))); have z2_ := Aside0.mk (hbox); have z3_ := Aside0.mk (((by rw [hg]; exact (below_size HB.out)) : w.heap.size ≤ gx)); clear HB HO; have HB := z0_; clear z0_; have HO := z1_; clear z1_; have BKx := z2_; clear z2_; have GEx := z3_; clear z3_; clear hb hbox hg; have hcx_0 : wx.cell? ⟨gx, 0, none⟩ = some (.int .i64 0) := (blk_cell BKx.out 0).trans rfl; have hfx_0 := blk_frozen BKx.out 0; have hcx_1 : wx.cell? ⟨gx, 1, none⟩ = some (.int .u64 0) := (blk_cell BKx.out 1).trans rfl; have hfx_1 := blk_frozen BKx.out 1; skip)) | ((with_reducible refine gate_store (t := 32) (p := 12) rfl ?_); (refine store_event (t := 32) (p := 12) (v := ?vo_wa) (w1 := ((wx.setCell ⟨gx, 0, none⟩ (.int .i64 y.f0)).setCell ⟨gx, 1, none⟩ (.int .u64 y.f1))) ?hg ?ho ?hn ?hr ?_; (case ho => rfl); (case hg => rfl); (case hn => rfl); (case hr => first | (go_simp; done) | (go_simp; rfl)); intro wa hw; clear hcx_0 hfx_0 hcx_1 hfx_1; have z0_ := Aside0.mk ((by rw [hw]; exact (below_set (below_set HB.out GEx.out) GEx.out) : Below w.heap.size w wa)); have z1_ := Aside0.mk ((by rw [hw]; exact (blk_put ((blk_put (BKx.out) 0 _ rfl)) 1 _ rfl) : wa.heap[gx]? = some (.cells #[.int .i64 y.f0, .int .u64 y.f1] 32 (0, 0)))); have z2_ := Aside0.mk ((by rw [hw]; exact Kd.R_mono (Kd.R_far (p := ⟨gx, 1, none⟩) (Kd.R_far (p := ⟨gx, 0, none⟩) HO.out (fun _ hk => hk.2) _) (fun _ hk => hk.2) _) (fun _ hk => hk) : Kd.R k32 32 wa w.heap.size (fun k_ : Nat => (True) ∧ k_ ≠ gx) (.slice A l.length c) (l))); clear HB BKx HO; have HB := z0_; clear z0_; have BKx := z1_; clear z1_; have HO := z2_; clear z2_; clear hw; have hcx_0 : wa.cell? ⟨gx, 0, none⟩ = some (.int .i64 y.f0) := (blk_cell BKx.out 0).trans rfl; have hfx_0 := blk_frozen BKx.out 0; have hcx_1 : wa.cell? ⟨gx, 1, none⟩ = some (.int .u64 y.f1) := (blk_cell BKx.out 1).trans rfl; have hfx_1 := blk_frozen BKx.out 1; skip)) | (go_at_call 40; ((with_reducible refine (hasPick1_calls (fun z => z.f0 == y.f0) (.pointer (some ⟨gx, 0, none⟩)) A c l wa wa (Below.refl _ _) (own_C HO.out).1 (fun W' z hb' => pick1_calls z.f0 z.f1 y.f0 y.f1 gx W' (blk_below BKx.out hb'))).mono ?_); rintro e wb ⟨rfl, hb⟩; rw [HS.out]; clear hcx_0 hfx_0 hcx_1 hfx_1; have z0_ := Aside0.mk (below_step HB.out hb); have z1_ := Aside0.mk (blk_below BKx.out hb); have z2_ := Aside0.mk (Kd.R_below HO.out hb); clear HB BKx HO; have HB := z0_; clear z0_; have BKx := z1_; clear z1_; have HO := z2_; clear z2_; clear hb; have hcx_0 : wb.cell? ⟨gx, 0, none⟩ = some (.int .i64 y.f0) := (blk_cell BKx.out 0).trans rfl; have hfx_0 := blk_frozen BKx.out 0; have hcx_1 : wb.cell? ⟨gx, 1, none⟩ = some (.int .u64 y.f1) := (blk_cell BKx.out 1).trans rfl; have hfx_1 := blk_frozen BKx.out 1; skip)))
              go_roundg (l0.length - i - 1)
              case measure => have := HI.out; omega
              case rel => exact ⟨i + 1, l, by go_num, HG, ⟨by have := HI.out; omega⟩, ⟨(Kd.R_mono HO.out (fun _ _ => trivial))⟩, HB⟩
          · have HE : Aside0 (l = r) := by have := HG.out; rw [List.drop_eq_nil_of_le (by omega), pickGo] at this; exact ⟨this⟩
            have hge : decide ((i : Int) < (l0.length : Int)) = false := by simp; omega
            clear HG
            obtain rfl := HE.out
            by_cases g2 : (l.length : Int) < a2
            · have h := H.out
              rw [if_pos g2] at h
              simp only [Option.some.injEq, Prod.mk.injEq] at h
              obtain ⟨rfl, rfl⟩ := h
              have e5 : decide ((l.length : Int) < a2) = true := decide_eq_true g2
              clear H HE g2
              go_wp2
              go_ret2
              exact ⟨_, rfl, Kd.R_nil _ _ _ _ _, HB.out⟩
            · have h := H.out
              rw [if_neg g2] at h
              simp only [Option.some.injEq, Prod.mk.injEq] at h
              obtain ⟨rfl, rfl⟩ := h
              have e5 : decide ((l.length : Int) < a2) = false := decide_eq_false g2
              clear H HE g2
              go_wp2
              go_ret2
              exact ⟨_, rfl, HO.out, HB.out⟩
end Go.Proofs.Ytipjnfljkknmgaa.Q
namespace Go.Proofs.Ytipjnfljkknmgaa.Q
open Go.RowKit Go.Proofs.YtipjnfljkknmgaaW.PrintWords Go.Proofs.YtipjnfljkknmgaaW.PrintLast Go.Proofs.YtipjnfljkknmgaaW.PrintMore
attribute [local go_sem] max2_int min2_int max_two min_two max_three min_three max_four min_four   -- for this text's walks alone
set_option linter.unusedVariables false
set_option linter.unusedSimpArgs false
def threeR14.f  : Option (Int × (List (S32))) := (scrivenerlaw14_place.f 7).bind fun bt146 => ((scrivenerlaw14_place.f 8).bind fun bt148 => ((scrivenerlaw14_place.f 9).bind fun bt150 => (some (3, (([(⟨bt146.1, bt146.2⟩ : S32), (⟨bt148.1, bt148.2⟩ : S32), (⟨bt150.1, bt150.2⟩ : S32)] : List (S32)))))))
set_option maxHeartbeats 8000000 in
set_option maxRecDepth 100000 in
theorem threeR14.calls  (r1 : Int) (r2 : List (S32)) (w : World) (h : threeR14.f  = some (r1, r2)) :
    Calls Try.prog 33 #[] w fun e w' => ∃ v1_ : Value, e = .returned (.agg #[.int .u64 r1, v1_]) ∧ Kd.R k32 32 w' w.heap.size (fun _ => True) v1_ r2 ∧ Below w.heap.size w w' := by
  have hu25 := Try.underlying25
  have HB := Aside0.mk (Below.refl w.heap.size w)
  have H : ((scrivenerlaw14_place.f 7).bind fun bt146 => ((scrivenerlaw14_place.f 8).bind fun bt148 => ((scrivenerlaw14_place.f 9).bind fun bt150 => (some (3, (([(⟨bt146.1, bt146.2⟩ : S32), (⟨bt148.1, bt148.2⟩ : S32), (⟨bt150.1, bt150.2⟩ : S32)] : List (S32)))))))) = some (r1, r2) := h
  clear h
  replace H := Option.bind_eq_some_iff.mp H
  obtain ⟨⟨t146, t147⟩, A10, H⟩ := H
  replace H : ((scrivenerlaw14_place.f 8).bind fun bt148 => ((scrivenerlaw14_place.f 9).bind fun bt150 => (some (3, (([(⟨t146, t147⟩ : S32), (⟨bt148.1, bt148.2⟩ : S32), (⟨bt150.1, bt150.2⟩ : S32)] : List (S32))))))) = some (r1, r2) := H
  have A1 := Aside0.mk A10
  clear A10
  replace H := Option.bind_eq_some_iff.mp H
  obtain ⟨⟨t148, t149⟩, A20, H⟩ := H
  replace H : ((scrivenerlaw14_place.f 9).bind fun bt150 => (some (3, (([(⟨t146, t147⟩ : S32), (⟨t148, t149⟩ : S32), (⟨bt150.1, bt150.2⟩ : S32)] : List (S32)))))) = some (r1, r2) := H
  have A2 := Aside0.mk A20
  clear A20
  replace H := Option.bind_eq_some_iff.mp H
  obtain ⟨⟨t150, t151⟩, A30, H⟩ := H
  replace H : (some (3, (([(⟨t146, t147⟩ : S32), (⟨t148, t149⟩ : S32), (⟨t150, t151⟩ : S32)] : List (S32))))) = some (r1, r2) := H
  have A3 := Aside0.mk A30
  clear A30
  obtain ⟨y152, hy152⟩ : ∃ y_ : List (S32), y_ = (([(⟨t146, t147⟩ : S32), (⟨t148, t149⟩ : S32), (⟨t150, t151⟩ : S32)] : List (S32))) := ⟨_, rfl⟩
  replace H : (some (3, y152)) = some (r1, r2) := by first | (rw [hy152]; with_reducible exact H) | (have H2_ := (Option.bind_some _ _).symm.trans H; rw [hy152]; with_reducible exact H2_) | (have H2_ := (Option.bind_some _ _).symm.trans H; with_reducible exact H2_) | with_reducible exact H | (rw [hy152]; exact H) | exact H
  have Ny152 := Aside0.mk hy152
  clear hy152
  simp only [Option.some.injEq, Prod.mk.injEq] at H
  obtain ⟨rfl, rfl⟩ := H
  go_enter Try.func33, Try.ntmps33
  go_wp2_with (first | ((with_reducible refine gate_dst (N := 0) rfl ?_); refine box_event ?hg (N := 0) ?hd (cs := #[.int .u64 0, .slice none 0 0]) (t := 25) ?hr ?_; (case hd => rfl); (case hg => rfl); (case hr => first | (go_simp; done) | (go_simp; rfl)); intro gb145 hg w4 hbox hb; have n0_ := Aside0.mk (below_step (Hb HB.out) hb); have n1_ := Aside0.mk (hbox); have n2_ := Aside0.mk ((by rw [hg]; exact (below_size (Hb HB.out)) : w.heap.size ≤ gb145)); have n3_ := Aside0.mk ((by rw [hg]; exact (below_size (Hb HB.out)) : w.heap.size ≤ gb145)); clear HB; have HB := n0_; have BK145 := n1_; have GW145 := n2_; have GE145 := n3_; clear n0_ n1_ n2_ n3_; clear hb hbox hg) | ((with_reducible refine gate_callee (f := 34) rfl ?_); refine goesL_ (some 1) rfl rfl Try.func34 (by kernel_rfl) rfl #[.int .i64 7] rfl (by (try simp only [List.map_toArray, List.map_cons, List.map_nil]); first | done | rfl | (simp only [List.length_drop, List.length_take]; rfl)) ?_; (with_reducible refine (scrivenerlaw14_place.calls 7 t146 t147 _ A1.out).mono ?_); rintro e w5 ⟨rfl, hb⟩; refine ⟨_, rfl, ?_⟩; have n0_ := Aside0.mk (blk_below (Bb BK145.out) hb); have n1_ := Aside0.mk (below_step (Hb HB.out) hb); clear BK145; clear HB; have BK145 := n0_; have HB := n1_; clear n0_ n1_; (try clear hb); (try clear hb2); (try clear hk); (try clear hi)) | ((with_reducible refine gate_callee (f := 34) rfl ?_); refine goesL_ (some 2) rfl rfl Try.func34 (by kernel_rfl) rfl #[.int .i64 8] rfl (by (try simp only [List.map_toArray, List.map_cons, List.map_nil]); first | done | rfl | (simp only [List.length_drop, List.length_take]; rfl)) ?_; (with_reducible refine (scrivenerlaw14_place.calls 8 t148 t149 _ A2.out).mono ?_); rintro e w6 ⟨rfl, hb⟩; refine ⟨_, rfl, ?_⟩; have n0_ := Aside0.mk (blk_below (Bb BK145.out) hb); have n1_ := Aside0.mk (below_step (Hb HB.out) hb); clear BK145; clear HB; have BK145 := n0_; have HB := n1_; clear n0_ n1_; (try clear hb); (try clear hb2); (try clear hk); (try clear hi)) | ((with_reducible refine gate_callee (f := 34) rfl ?_); refine goesL_ (some 3) rfl rfl Try.func34 (by kernel_rfl) rfl #[.int .i64 9] rfl (by (try simp only [List.map_toArray, List.map_cons, List.map_nil]); first | done | rfl | (simp only [List.length_drop, List.length_take]; rfl)) ?_; (with_reducible refine (scrivenerlaw14_place.calls 9 t150 t151 _ A3.out).mono ?_); rintro e w7 ⟨rfl, hb⟩; refine ⟨_, rfl, ?_⟩; have n0_ := Aside0.mk (blk_below (Bb BK145.out) hb); have n1_ := Aside0.mk (below_step (Hb HB.out) hb); clear BK145; clear HB; have BK145 := n0_; have HB := n1_; clear n0_ n1_; (try clear hb); (try clear hb2); (try clear hk); (try clear hi)) | ((with_reducible refine gate_dst (N := 4) rfl ?_); refine Kd.R_lit k32 _ 32 ?hg (N := 4) ?hd (xs := ([(⟨t146, t147⟩ : S32), (⟨t148, t149⟩ : S32), (⟨t150, t151⟩ : S32)] : List (S32))) (inner := [.int .i64 t146, .int .u64 t147, .int .i64 t148, .int .u64 t149, .int .i64 t150, .int .u64 t151]) (ok := fun _ => True) (okp := fun _ => True) ?hr ?hp (fun _ hk => hk) trivial (Below.refl _ _) (Nat.le_refl _) (by simp) ?_; (case hd => rfl); (case hg => rfl); (case hr => first | (go_simp; done) | (go_simp; rfl)); (case hp => exact (Reps.c2 (show Kd.M k32 _ _ _ (⟨t146, t147⟩ : S32) [.int .i64 t146, .int .u64 t147] from (k32_mkM _ _ _ (⟨t146, t147⟩ : S32) )) (Reps.c2 (show Kd.M k32 _ _ _ (⟨t148, t149⟩ : S32) [.int .i64 t148, .int .u64 t149] from (k32_mkM _ _ _ (⟨t148, t149⟩ : S32) )) (Reps.c2 (show Kd.M k32 _ _ _ (⟨t150, t151⟩ : S32) [.int .i64 t150, .int .u64 t151] from (k32_mkM _ _ _ (⟨t150, t151⟩ : S32) )) (Reps.none _ _))))); intro v153 w8 ho9 hb hg_ hnew_; clear hg_ hnew_; (first | rw [← Ny152.out] at ho9 | (simp only [Int.reduceToNat] at ho9; rw [← Ny152.out] at ho9)); have n0_ := Aside0.mk (Kd.R_lower ho9 (below_size (Hb HB.out))); have n1_ := Aside0.mk (blk_below (Bb BK145.out) hb); have n2_ := Aside0.mk (below_step (Hb HB.out) hb); clear BK145; clear HB; have HO154 := n0_; have BK145 := n1_; have HB := n2_; clear n0_ n1_ n2_; clear hb ho9; obtain ⟨Ao10, co10, eo10⟩ := Kd.R_slice HO154.out; subst eo10; have hcz11_0 : w8.cell? ⟨gb145, 0, none⟩ = some (.int .u64 0) := (blk_cell BK145.out 0).trans rfl; have hcz11_1 : w8.cell? ⟨gb145, 1, none⟩ = some (.slice none 0 0) := (blk_cell BK145.out 1).trans rfl; have hfz11_0 := blk_frozen BK145.out 0; have hfz11_1 := blk_frozen BK145.out 1))
  refine bodyPost_ret (results_cell_row rfl _ _ gb145 25 #[.int .u64 3, .slice Ao10 y152.length co10] (0, 0) _ rfl (by (with_reducible repeat (first | refine blk_drewN ?_ _ | refine blk_drew ?_ | refine blk_alloc ?_ _)); refine blk_put (cs := #[.int .u64 3, .slice none 0 0]) ?_ 1 _ rfl; (with_reducible repeat (first | refine blk_drewN ?_ _ | refine blk_drew ?_ | refine blk_alloc ?_ _)); refine blk_put (cs := #[.int .u64 0, .slice none 0 0]) ?_ 0 _ rfl; (with_reducible repeat (first | refine blk_drewN ?_ _ | refine blk_drew ?_ | refine blk_alloc ?_ _)); exact BK145.out) Try.underlying25 rfl (by kernel_rfl)) rfl ?_
  exact ⟨_, by first | rfl | (simp [errW_none, errW_some] <;> rfl) | (simp [*, errW_none, errW_some] <;> rfl), by (with_reducible repeat (first | apply Kd.R_alloc | apply Kd.R_drewN | apply Kd.R_drew)); exact Kd.R_mono (Kd.R_far (p := ⟨gb145, 1, none⟩) (Kd.R_far (p := ⟨gb145, 0, none⟩) (Kd.R_types HO154.out BK145.out (by decide)) (fun _ hk => hk.2) (.int .u64 3)) (fun _ hk => hk.2) (.slice Ao10 y152.length co10)) (fun _ hk => trivial), by repeat (first | (with_reducible first | exact HB.out | apply below_alloc | apply pw_below_drewN | apply below_drew1 | refine below_set ?_ GE145.out) | exact HB.out)⟩
end Go.Proofs.Ytipjnfljkknmgaa.Q
namespace Go.Proofs.Ytipjnfljkknmgaa.Q
open Go.RowKit Go.Proofs.YtipjnfljkknmgaaW.PrintWords Go.Proofs.YtipjnfljkknmgaaW.PrintLast Go.Proofs.YtipjnfljkknmgaaW.PrintMore
set_option linter.unusedVariables false
set_option linter.unusedSimpArgs false
def scrivenerlaw14_three.f : Option (Int × List S32) := threeR14.f
theorem scrivenerlaw14_three.calls (r1 : Int) (r2 : List S32) (w : World) (h : scrivenerlaw14_three.f = some (r1, r2)) :
    Calls Try.prog 33 #[] w fun e w' => ∃ v1_ : Value, e = .returned (.agg #[.int .u64 r1, v1_]) ∧ Kd.V k32 32 w' w.heap.size (fun k_ => (w.heap.size ≤ k_)) v1_ r2 ∧ Below w.heap.size w w' := by
  refine (threeR14.calls r1 r2 w h).mono ?_
  rintro e w' ⟨v, rfl, hr, hb⟩
  exact ⟨v, rfl, Kd.V_mono (Kd.R_V (Kd.R_bound hr)) (fun k hk => hk.2.1), hb⟩
end Go.Proofs.Ytipjnfljkknmgaa.Q
