/- Part 3 of the proof of the row ReaderStays: written for this claim by the session and by a program of its own. -/
import Derived.Test.YtjoboiegkbmgmaaCReaderStaysp2
import Derived.Test.YtjoboiegkbmgmaaProg
import Derived.Test.YtjoboiegkbmgmaaChecked
set_option linter.unusedVariables false
set_option linter.unusedSimpArgs false
namespace Go.AM
variable {P : Program}
def noN (ι : Io) : Io := fun i => match i with | .n _ => [] | i => ι i
def PostM (E : Env) (ι : Io) (w' : World) (v : Value) (h : Hp) (Q : AV → List Blk → Prop) : Prop :=
  ∃ E' ι' r N, E.le E' ∧ (∀ (i : Id) (g : Nat) (loc : Loc), (∀ j, i ≠ .n j) → (ι i)[g]? = some loc → (ι' i)[g]? = some loc) ∧ (∀ i, ι i = [] → (∀ j, i ≠ .n j) → ι' i = []) ∧ (∀ j, N.length ≤ j → ι' (.n j) = []) ∧ Den E' ι' (hpC h N) w' ∧ Rel E' ι' r v ∧ Q r N
/-- Called with these, and with the blocks bs (named .n) for good. -/
def SemCM (P : Program) (f : FuncId) (args : List AV) (bs : List Blk) (h : Hp) (Q : AV → List Blk → Prop) : Prop :=
  ∀ (E : Env) (ι : Io) (vs : Array Value) (w : World), Den E ι (hpC h bs) w → Den E (noN ι) h w → (∀ j, bs.length ≤ j → ι (.n j) = []) → args.length = vs.size → (∀ i, i < args.length → Rel E ι (args.getD i .bot) (vs.getD i undef)) →
    Calls P f vs w fun e w' => ∃ v, e = .returned v ∧ PostM E ι w' v h Q
theorem SemCM.mono {f : FuncId} {args : List AV} {bs : List Blk} {h : Hp} {Q Q' : AV → List Blk → Prop} (hh : SemCM P f args bs h Q) (hq : ∀ r N, Q r N → Q' r N) : SemCM P f args bs h Q' := by
  intro E ι vs w d d' hno hl hr
  refine (hh E ι vs w d d' hno hl hr).mono fun e w' he => ?_
  obtain ⟨v, rfl, E', ι', r, N, p1, p2, p3, p3n, p4, p5, h1⟩ := he
  exact ⟨v, rfl, E', ι', r, N, p1, p2, p3, p3n, p4, p5, hq _ _ h1⟩
def ent : Id → Id
  | .n j => .l j
  | i => .o i
def bsL (k : Nat) : List Blk → Lh
  | [] => []
  | b :: bs => (k, b.ren ent) :: bsL (k + 1) bs
theorem getB_bsL : ∀ (bs : List Blk) (k q : Nat), getB (bsL k bs) q = if k ≤ q then (bs[q - k]?).map (Blk.ren ent) else none
  | [], k, q => by simp [bsL, getB]
  | b :: bs, k, q => by
    simp only [bsL, getB]
    cases hb : Nat.beq k q with
    | true => have := Nat.eq_of_beq_eq_true hb; subst this; simp
    | false =>
      have hne : k ≠ q := fun e => by subst e; simp at hb
      simp only [cond_false]
      rw [getB_bsL bs (k + 1) q]
      by_cases h1 : k + 1 ≤ q
      · rw [if_pos h1, if_pos (by omega)]
        obtain ⟨m, rfl⟩ : ∃ m, q = k + 1 + m := ⟨q - (k + 1), by omega⟩
        rw [show k + 1 + m - (k + 1) = m by omega, show k + 1 + m - k = m + 1 by omega]
        simp
      · rw [if_neg h1, if_neg (by omega)]
theorem SemCM.enter {f : FuncId} {fn : Func} {c : Code} {args : List AV} {bs : List Blk} {h : Hp} {Q : AV → List Blk → Prop} (hf : P.funcs[f]? = some fn) (hb : fn.body = some c) (hn : args.length ≤ fn.ntmps) (fr : List Nat) (hnd : fr.Nodup) (hfr : ∀ n ∈ fr, bs.length ≤ n)
    (hh : SemW P f fn [] (fun r h' N => h' = h ∧ Q (r.ren down) (N.map (Blk.ren down))) h [.code c] (argT (renL ent args) 0) (bsL 0 bs) fr) : SemCM P f args bs h Q := by
  intro E ι vs w d dn hno hl hr cs
  let b : Frame := { (default : Frame) with fn := f, kind := .normal }
  have henter : Frame.enter P f vs .normal = b.at { tmps := vs ++ Array.replicate (fn.ntmps - vs.size) undef, defers := [] } [.code c] := by
    simp [Frame.enter, Frame.at, hf, hb, b]
  let ιc : Io := fun i => match i with | .o i => noN ι i | .l k => ι (.n k) | .n _ => []
  have hent : ∀ (id : Id) (g : Nat) (loc : Loc), (ι id)[g]? = some loc → (ιc (ent id))[g]? = some loc := by
    intro id g loc hh
    cases id with
    | n j => exact hh
    | o i => exact hh
    | l k => exact hh
  have hL : ∀ k b, getB (bsL 0 bs) k = some b → ∃ b0, bs[k]? = some b0 ∧ b = b0.ren ent := by
    intro k b hb
    rw [getB_bsL, if_pos (Nat.zero_le _), Nat.sub_zero, Option.map_eq_some_iff] at hb
    obtain ⟨b0, h0, rfl⟩ := hb
    exact ⟨b0, h0, rfl⟩
  have hnn : ∀ j, h (.n j) = none := fun j => dn.none rfl
  -- from a name here to the name there
  have dc : Den E ιc (hp h (bsL 0 bs)) w := by
    have back : ∀ i b, hp h (bsL 0 bs) i = some b → ∃ i0 b0, hpC h bs i0 = some b0 ∧ ιc i = ι i0 ∧ i = ent i0 := by
      intro i b hb
      cases i with
      | l k =>
        obtain ⟨b0, h0, _⟩ := hL k b hb
        exact ⟨.n k, b0, h0, rfl, rfl⟩
      | o i =>
        simp only [hp, Option.map_eq_some_iff] at hb
        obtain ⟨b0, h0, _⟩ := hb
        cases i with
        | n j => rw [hnn j] at h0; cases h0
        | o i => exact ⟨.o i, b0, h0, rfl, rfl⟩
        | l k => exact ⟨.l k, b0, h0, rfl, rfl⟩
      | n j => simp [hp] at hb
    constructor
    · exact d.kept
    · exact d.os
    · exact d.tape
    · exact d.output
    · intro i b hb
      cases i with
      | l k =>
        obtain ⟨b0, h0, rfl⟩ := hL k b hb
        exact BlkOk.ren' (id := .n k) (ι' := ιc) ent hent rfl (d.ok (.n k) b0 h0)
      | o i =>
        simp only [hp, Option.map_eq_some_iff] at hb
        obtain ⟨b0, h0, rfl⟩ := hb
        exact (dn.ok i b0 h0).ren' (ι' := ιc) .o (fun id g loc hh => hh) rfl
      | n j => simp [hp] at hb
    · intro i i' b b' k h1 h2 hne hk hk'
      obtain ⟨i0, b0, g1, g2, g3⟩ := back i b h1
      obtain ⟨i1, b1, k1, k2, k3⟩ := back i' b' h2
      refine d.apart i0 i1 b0 b1 k g1 k1 (fun e => hne (by rw [g3, k3, e])) ?_ ?_
      · unfold place at hk ⊢; rw [← g2]; exact hk
      · unfold place at hk' ⊢; rw [← k2]; exact hk'
    · intro i b k h1 hk
      obtain ⟨i0, b0, g1, g2, g3⟩ := back i b h1
      refine d.own i0 b0 k g1 ?_
      unfold place at hk ⊢; rw [← g2]; exact hk
  have hT : TOk E ιc (argT (renL ent args) 0) (vs ++ Array.replicate (fn.ntmps - vs.size) undef) := by
    intro t
    rw [get_argT, if_pos (Nat.zero_le _), Nat.sub_zero, renL_getD]
    by_cases ht : t < args.length
    · have := (hr t ht).ren' (ι' := ιc) ent hent
      have e : (vs ++ Array.replicate (fn.ntmps - vs.size) undef).getD t undef = vs.getD t undef := by
        have : t < vs.size := by omega
        simp [Array.getElem?_append_left this]
      rw [e]
      exact this
    · have : args.getD t .bot = .bot := by simp [List.getElem?_eq_none (Nat.le_of_not_lt ht)]
      rw [this]
      exact Rel.bot _
  obtain ⟨w', frm, v, s1, s2, s3, E', ι', r, h', N, p1, p2, p3, p4, p4n, p5, p6, ⟨rfl, p7⟩, _⟩ := hh E ιc { tmps := vs ++ Array.replicate (fn.ntmps - vs.size) undef, defers := [] } w b cs rfl rfl rfl (by simp; omega) hT dc ⟨hnd, fun n hn => hno n (hfr n hn)⟩ ⟨fun _ => rfl, Track.nil _⟩
  rw [← henter] at s1
  refine ⟨.returned v, w', frm, ⟨v, rfl, ?_⟩, s1, s2, s3⟩
  have hon : ∀ j, ι' (.o (.n j)) = [] := fun j => p3 (.n j) rfl
  let ι2 : Io := fun i => match i with | .n j => ι' (.n j) | i => ι' (.o i)
  have e2 : ∀ i, (∀ j, i ≠ .n j) → ι2 i = ι' (.o i) := by
    intro i hi
    cases i with
    | n j => exact absurd rfl (hi j)
    | o i => rfl
    | l k => rfl
  have eN : ∀ i, (∀ j, i ≠ .n j) → ιc (.o i) = ι i := by
    intro i hi
    cases i with
    | n j => exact absurd rfl (hi j)
    | o i => rfl
    | l k => rfl
  have hren : ∀ (id : Id) (g : Nat) (loc : Loc), (ι' id)[g]? = some loc → (ι2 (down id))[g]? = some loc := by
    intro id g loc hh
    cases id with
    | o i =>
      show (ι2 i)[g]? = _
      cases i with
      | n j => rw [hon j] at hh; simp at hh
      | o i => exact hh
      | l k => exact hh
    | n j => exact hh
    | l k => rw [p4 k] at hh; simp at hh
  let up : Id → Id := fun i => match i with | .n j => .n j | i => .o i
  have up_down : ∀ i, down (up i) = i := fun i => by cases i <;> rfl
  have up_ι : ∀ i, ι2 i = ι' (up i) := fun i => by cases i <;> rfl
  have up_inj : ∀ i i', up i = up i' → i = i' := fun i i' e => by rw [← up_down i, e, up_down]
  have hup : ∀ i b, hpC h' (N.map (Blk.ren down)) i = some b → ∃ b0, hpN h' N (up i) = some b0 ∧ b = b0.ren down := by
    intro i b hb
    cases i with
    | n j =>
      simp only [hpC, List.getElem?_map, Option.map_eq_some_iff] at hb
      obtain ⟨b0, h0, rfl⟩ := hb
      exact ⟨b0, h0, rfl⟩
    | o i =>
      simp only [hpC] at hb
      refine ⟨b.ren .o, by simp [up, hpN, hb], ?_⟩
      rw [Blk.ren_ren]
      exact (Blk.ren_id _ (fun i => rfl) b).symm
    | l k =>
      simp only [hpC] at hb
      refine ⟨b.ren .o, by simp [up, hpN, hb], ?_⟩
      rw [Blk.ren_ren]
      exact (Blk.ren_id _ (fun i => rfl) b).symm
  refine ⟨E', ι2, r.ren down, N.map (Blk.ren down), p1, ?_, ?_, fun j hj => p4n j (by simpa using hj), ?_, p6.ren' down hren, p7⟩
  · intro i g loc hi hh
    rw [e2 i hi]
    exact p2 i g loc (by rw [eN i hi]; exact hh)
  · intro i hi hne
    rw [e2 i hne]
    exact p3 i (by rw [eN i hne]; exact hi)
  · constructor
    · exact p5.kept
    · exact p5.os
    · exact p5.tape
    · exact p5.output
    · intro i b hb
      obtain ⟨b0, h0, rfl⟩ := hup i b hb
      have := (p5.ok (up i) b0 h0).ren' (ι' := ι2) down hren (by rw [up_down, up_ι])
      rw [up_down] at this
      exact this
    · intro i i' b b' k h1 h2 hne hk hk'
      obtain ⟨b0, h0, _⟩ := hup i b h1
      obtain ⟨b1, h1', _⟩ := hup i' b' h2
      refine p5.apart (up i) (up i') b0 b1 k h0 h1' (fun e => hne (up_inj _ _ e)) ?_ ?_
      · unfold place at hk ⊢; rw [← up_ι]; exact hk
      · unfold place at hk' ⊢; rw [← up_ι]; exact hk'
    · intro i b k h1 hk
      obtain ⟨b0, h0, _⟩ := hup i b h1
      refine p5.own (up i) b0 k h0 ?_
      unfold place at hk ⊢; rw [← up_ι]; exact hk
section
variable {fid : FuncId} {fn : Func} {Kt : Trk} {Q : AV → Hp → List Blk → Prop} {h : Hp}
end
end Go.AM
set_option linter.unusedVariables false
set_option linter.unusedSimpArgs false
namespace Go.AM
theorem wrap_i64 {n : Int} (h1 : -9223372036854775808 ≤ n) (h2 : n ≤ 9223372036854775807) : IntKind.i64.wrap n = n := by
  simp only [IntKind.wrap, IntKind.bits, IntKind.signed, IntKind.max, IntKind.min]
  simp
  omega
theorem wrap_u64 {n : Int} (h1 : 0 ≤ n) (h2 : n ≤ 18446744073709551615) : IntKind.u64.wrap n = n := by
  simp only [IntKind.wrap, IntKind.bits, IntKind.signed, IntKind.max, IntKind.min]
  simp
  omega
end Go.AM
set_option linter.unusedVariables false
set_option linter.unusedSimpArgs false
open Go Go.AM
namespace Go.AM
structure Pl where
  node : Int
  serial : Int
  deriving DecidableEq
instance : Inhabited Pl := ⟨⟨0, 0⟩⟩
def encP (p : Pl) : AV := .agg [.val (.int .i64 p.node), .val (.int .u64 p.serial)]
def sP (l : List Pl) : AV := .vs true 2 l.length (fun i => encP (l.getD i ⟨0, 0⟩))
structure Fr where
  first : Int
  books : List Pl
  deriving DecidableEq
instance : Inhabited Fr := ⟨⟨0, []⟩⟩
def encF (f : Fr) : AV := .agg [.val (.int .u64 f.first), sP f.books]
def sF (l : List Fr) : AV := .vs true 2 l.length (fun i => encF (l.getD i ⟨0, []⟩))
def fresh : List Nat := [0, 1, 2, 3, 4, 5, 6, 7, 8, 9]
theorem fresh_nodup : fresh.Nodup := by decide
def fresh1 : List Nat := [1, 2, 3, 4, 5, 6, 7, 8, 9]
theorem fresh1_nodup : fresh1.Nodup := by decide
theorem incI {i : Nat} (h : i < 2^62) : AV.val (.int .i64 (IntKind.i64.wrap ((i:Int) + 1))) = aint ((i + 1 : Nat) : Int) := by
  rw [wrap_i64 (by omega) (by omega)]; rfl
theorem incU {i : Nat} (h : i < 2^63) : AV.val (.int .u64 (IntKind.u64.wrap ((i:Int) + 1))) = .val (.int .u64 ((i + 1 : Nat) : Int)) := by
  rw [wrap_u64 (by omega) (by omega)]; rfl
theorem decI {i : Nat} (h : i < 2^62) : AV.val (.int .i64 (IntKind.i64.wrap ((i:Int) - 1))) = aint ((i : Int) - 1) := by
  rw [wrap_i64 (by omega) (by omega)]
theorem avoid_ren : ∀ (p : Nat → Bool), (∀ a : AV, (a.ren .o).avoid p = true) ∧ (∀ l : List AV, avoidL p (renL .o l) = true) := fun p => by
  have key : ∀ a : AV, (a.ren .o).avoid p = true := fun a =>
    AV.rec (motive_1 := fun a => (a.ren .o).avoid p = true) (motive_2 := fun l => avoidL p (renL .o l) = true) rfl (fun _ => rfl) (fun _ h => h) (fun _ h => h) (fun _ _ h => h) (fun _ _ => rfl) (fun _ _ _ _ _ => rfl) (fun _ _ _ _ _ => rfl) (fun _ _ _ _ _ _ => rfl) (fun _ _ _ _ _ => rfl) rfl (fun _ _ h1 h2 => by simp only [renL, avoidL, h1, h2]; rfl) a
  refine ⟨key, fun l => ?_⟩
  induction l with
  | nil => rfl
  | cons a l ih => simp only [renL, avoidL, key a, ih]; rfl
theorem avoid_caps {caps : List AV} (h : renL .o caps = caps) (p : Nat → Bool) : avoidL p caps = true := by rw [← h]; exact (avoid_ren p).2 caps
theorem blt_zero (n : Nat) : Nat.blt n 0 = false := by
  cases hb : Nat.blt n 0 with
  | false => rfl
  | true => have := Nat.blt_eq.mp hb; omega
def lastF (l : List Fr) (is : Fr → Bool) : Fr := ((l.filter is).getLast?).getD ⟨0, []⟩
theorem lastF_take {l : List Fr} {is : Fr → Bool} {i : Nat} (h : i < l.length) : lastF (l.take (i + 1)) is = (if is l[i] then l[i] else lastF (l.take i) is) ∧ (l.take (i + 1)).any is = ((l.take i).any is || is l[i]) := by
  have e : l.take (i + 1) = l.take i ++ [l[i]] := by rw [List.take_add_one, List.getElem?_eq_getElem h]; rfl
  rw [e]
  constructor
  · unfold lastF
    rw [List.filter_append]
    cases hb : is l[i] with
    | true => simp [hb]
    | false => simp [hb]
  · rw [List.any_append]
    simp
theorem lastF_mem {l : List Fr} {is : Fr → Bool} {p : Fr → Prop} (h : ∀ f ∈ l, p f) (h0 : p ⟨0, []⟩) : p (lastF l is) := by
  unfold lastF
  cases hb : (l.filter is).getLast? with
  | none => exact h0
  | some f => exact h f (List.mem_filter.1 (List.mem_of_getLast? hb)).1
abbrev P0 : Pl := ⟨0, 0⟩
theorem all_false {f : Nat → Bool} {n i : Nat} (h : i < n) (hf : f i = false) : (List.range n).all f = false := by
  rw [List.all_eq_false]
  exact ⟨i, List.mem_range.2 h, by simp [hf]⟩
theorem all_succ {f : Nat → Bool} {n : Nat} (h : (List.range n).all f = true) (hf : f n = true) : (List.range (n + 1)).all f = true := by
  rw [List.range_succ, List.all_append, h]
  simp [hf]
abbrev F0 : Fr := ⟨0, []⟩
def longF (l : List Fr) : Bool := decide ((l.length : Int) > 30) || (List.range l.length).any fun i => decide (((l.getD i F0).books.length : Int) > 30)
def placeB (p : Pl) : Bool := decide (p.node > 0) && (decide (p.node ≤ 15) && (decide (p.serial > 0) && decide (p.serial ≤ 4611686018427387903)))
theorem any_true {f : Nat → Bool} {n i : Nat} (h : i < n) (hf : f i = true) : (List.range n).any f = true := List.any_eq_true.2 ⟨i, List.mem_range.2 h, hf⟩
theorem any_succ {f : Nat → Bool} {n : Nat} (h : (List.range n).any f = false) (hf : f n = false) : (List.range (n + 1)).any f = false := by
  rw [List.range_succ, List.any_append, h]
  simp [hf]
structure CapsOk (caps : List AV) : Prop where
  ren : ∀ f, renL f caps = caps
  view : ∀ h, viewL h caps = caps
  ok : ∀ h, viewLC h caps
theorem CapsOk.vp (ag : Bool) (c : Nat) (x : AV) (o : Nat) : CapsOk [.vp ag c x o] := ⟨fun _ => rfl, fun _ => rfl, fun _ => ⟨trivial, trivial⟩⟩
theorem CapsOk.avoid {caps : List AV} (h : CapsOk caps) (p : Nat → Bool) : avoidL p caps = true := avoid_caps (h.ren .o) p
/-- one element appended -/
theorem app1 {f f' : Nat → AV} {z v : AV} {i : Nat} (h : ∀ j, j < i → f j = f' j) (hv : v = f' i) : ∀ j, j < i + 1 → (bif Nat.blt j i then f (0 + j) else fillE (fun _ => z) [(0, v)] (0 + (j - i))) = f' j := by
  intro j hj
  cases hb : Nat.blt j i with
  | true =>
    have := Nat.blt_eq.mp hb
    simp only [cond_true, Nat.zero_add]
    exact h j this
  | false =>
    have hge : i ≤ j := Nat.le_of_not_lt fun hlt => by rw [← Nat.blt_eq, hb] at hlt; cases hlt
    have : j = i := by omega
    subst this
    simp [fillE, hv]
theorem app1P {l : List Pl} {x : Pl} {z v : AV} (hv : v = encP x) : ∀ j, j < (l ++ [x]).length → (bif Nat.blt j l.length then encP (l.getD (0 + j) ⟨0, 0⟩) else fillE (fun _ => z) [(0, v)] (0 + (j - l.length))) = encP ((l ++ [x]).getD j ⟨0, 0⟩) := by
  intro j hj
  refine app1 (f := fun j => encP (l.getD j ⟨0, 0⟩)) (f' := fun j => encP ((l ++ [x]).getD j ⟨0, 0⟩)) (fun j hj => ?_) ?_ j (by simpa using hj)
  · simp only [List.getD_eq_getElem?_getD]
    rw [List.getElem?_append_left hj]
  · rw [hv]
    simp
theorem AvLe.sP {l : List Pl} {n : Nat} {f : Nat → AV} (hn : n = l.length) (hf : ∀ i, i < n → f i = encP (l.getD i ⟨0, 0⟩)) : AvLe (.vs true 2 n f) (sP l) := AvLe.vs hn hf
/-- the first that is so, as an int; -1: there is none -/
def idxF {α : Type} (l : List α) (p : α → Bool) : Int := if l.findIdx p < l.length then (l.findIdx p : Int) else -1
theorem idxF_any {α : Type} (l : List α) (p : α → Bool) : decide (0 ≤ idxF l p) = l.any p := by
  unfold idxF
  split
  · rename_i h
    have : l.any p = true := by
      rw [List.any_eq_true]
      exact ⟨_, List.getElem_mem h, List.findIdx_getElem (w := h)⟩
    rw [this]
    simp
  · rename_i h
    have : l.any p = false := by
      cases hb : l.any p with
      | false => rfl
      | true =>
        rw [List.any_eq_true] at hb
        obtain ⟨x, h1, h2⟩ := hb
        exact absurd (List.findIdx_lt_length_of_exists ⟨x, h1, h2⟩) h
    rw [this]
    simp
end Go.AM
set_option linter.unusedVariables false
set_option linter.unusedSimpArgs false
open Go Go.AM
namespace Go.Proofs.Try
set_option maxRecDepth 100000
set_option maxHeartbeats 4000000
def tabT : Nat → TI
  | 1 => ⟨true, .other, 1, false, [.nilFunc], 8, false⟩
  | 2 => ⟨true, .int .i64, 1, false, [.int .i64 0], 8, false⟩
  | 3 => ⟨true, .int .i64, 1, false, [.int .i64 0], 8, false⟩
  | 4 => ⟨true, .bool, 1, false, [.bool false], 1, false⟩
  | 5 => ⟨true, .int .u8, 1, false, [.int .u8 0], 1, false⟩
  | 9 => ⟨true, .string, 1, false, [.string ByteArray.empty], 16, false⟩
  | 12 => ⟨true, .int .u64, 1, false, [.int .u64 0], 8, false⟩
  | 15 => ⟨true, .ptr 214, 1, false, [.pointer none], 8, false⟩
  | 16 => ⟨true, .ptr 217, 1, false, [.pointer none], 8, false⟩
  | 17 => ⟨true, .ptr 226, 1, false, [.pointer none], 8, false⟩
  | 21 => ⟨true, .int .i32, 1, false, [.int .i32 0], 4, false⟩
  | 22 => ⟨true, .int .u64, 1, false, [.int .u64 0], 8, false⟩
  | 23 => ⟨true, .slice 106, 1, false, [.slice none 0 0], 24, false⟩
  | 24 => ⟨true, .struct [(0, 22), (1, 3), (2, 3), (3, 23), (4, 3), (5, 22)], 6, true, [.int .u64 0, .int .i64 0, .int .i64 0, .slice none 0 0, .int .i64 0, .int .u64 0], 64, false⟩
  | 25 => ⟨true, .struct [(0, 22), (1, 3), (2, 3), (3, 23), (4, 3), (5, 22)], 6, true, [.int .u64 0, .int .i64 0, .int .i64 0, .slice none 0 0, .int .i64 0, .int .u64 0], 64, false⟩
  | 26 => ⟨true, .slice 42, 1, false, [.slice none 0 0], 24, false⟩
  | 27 => ⟨true, .slice 5, 1, false, [.slice none 0 0], 24, false⟩
  | 28 => ⟨true, .other, 1, false, [.nilFunc], 8, false⟩
  | 29 => ⟨true, .other, 1, false, [.nilFunc], 8, false⟩
  | 30 => ⟨true, .slice 38, 1, false, [.slice none 0 0], 24, false⟩
  | 31 => ⟨true, .struct [(0, 22), (1, 22), (2, 30), (3, 3), (4, 22), (5, 22), (6, 3), (7, 27)], 8, true, [.int .u64 0, .int .u64 0, .slice none 0 0, .int .i64 0, .int .u64 0, .int .u64 0, .int .i64 0, .slice none 0 0], 96, false⟩
  | 32 => ⟨true, .struct [(0, 22), (1, 22), (2, 30), (3, 3), (4, 22), (5, 22), (6, 3), (7, 27)], 8, true, [.int .u64 0, .int .u64 0, .slice none 0 0, .int .i64 0, .int .u64 0, .int .u64 0, .int .i64 0, .slice none 0 0], 96, false⟩
  | 33 => ⟨true, .slice 49, 1, false, [.slice none 0 0], 24, false⟩
  | 34 => ⟨true, .int .i64, 1, false, [.int .i64 0], 8, false⟩
  | 36 => ⟨true, .other, 1, false, [.nilFunc], 8, false⟩
  | 37 => ⟨true, .struct [(0, 3), (1, 22)], 2, true, [.int .i64 0, .int .u64 0], 16, true⟩
  | 38 => ⟨true, .struct [(0, 3), (1, 22)], 2, true, [.int .i64 0, .int .u64 0], 16, true⟩
  | 39 => ⟨true, .struct [(0, 38), (2, 3), (3, 3), (4, 22), (5, 22), (6, 22), (7, 22), (8, 27)], 9, true, [.int .i64 0, .int .u64 0, .int .i64 0, .int .i64 0, .int .u64 0, .int .u64 0, .int .u64 0, .int .u64 0, .slice none 0 0], 88, false⟩
  | 40 => ⟨true, .struct [(0, 38), (2, 3), (3, 3), (4, 22), (5, 22), (6, 22), (7, 22), (8, 27)], 9, true, [.int .i64 0, .int .u64 0, .int .i64 0, .int .i64 0, .int .u64 0, .int .u64 0, .int .u64 0, .int .u64 0, .slice none 0 0], 88, false⟩
  | 41 => ⟨true, .struct [(0, 3), (1, 3), (2, 22), (3, 40), (12, 25)], 18, true, [.int .i64 0, .int .i64 0, .int .u64 0, .int .i64 0, .int .u64 0, .int .i64 0, .int .i64 0, .int .u64 0, .int .u64 0, .int .u64 0, .int .u64 0, .slice none 0 0, .int .u64 0, .int .i64 0, .int .i64 0, .slice none 0 0, .int .i64 0, .int .u64 0], 176, false⟩
  | 42 => ⟨true, .struct [(0, 3), (1, 3), (2, 22), (3, 40), (12, 25)], 18, true, [.int .i64 0, .int .i64 0, .int .u64 0, .int .i64 0, .int .u64 0, .int .i64 0, .int .i64 0, .int .u64 0, .int .u64 0, .int .u64 0, .int .u64 0, .slice none 0 0, .int .u64 0, .int .i64 0, .int .i64 0, .slice none 0 0, .int .i64 0, .int .u64 0], 176, false⟩
  | 44 => ⟨true, .other, 1, false, [.nilFunc], 8, false⟩
  | 45 => ⟨true, .other, 1, false, [.nilFunc], 8, false⟩
  | 46 => ⟨true, .other, 1, false, [.nilFunc], 8, false⟩
  | 47 => ⟨true, .slice 22, 1, false, [.slice none 0 0], 24, false⟩
  | 48 => ⟨true, .struct [(0, 38), (2, 3), (3, 22), (4, 22), (5, 22), (6, 22), (7, 3), (8, 27), (9, 47)], 10, true, [.int .i64 0, .int .u64 0, .int .i64 0, .int .u64 0, .int .u64 0, .int .u64 0, .int .u64 0, .int .i64 0, .slice none 0 0, .slice none 0 0], 112, false⟩
  | 49 => ⟨true, .struct [(0, 38), (2, 3), (3, 22), (4, 22), (5, 22), (6, 22), (7, 3), (8, 27), (9, 47)], 10, true, [.int .i64 0, .int .u64 0, .int .i64 0, .int .u64 0, .int .u64 0, .int .u64 0, .int .u64 0, .int .i64 0, .slice none 0 0, .slice none 0 0], 112, false⟩
  | 50 => ⟨true, .int .u64, 1, false, [.int .u64 0], 8, false⟩
  | 51 => ⟨true, .other, 1, false, [.nilFunc], 8, false⟩
  | 52 => ⟨true, .other, 1, false, [.nilFunc], 8, false⟩
  | 53 => ⟨true, .other, 1, false, [.nilFunc], 8, false⟩
  | 54 => ⟨true, .other, 1, false, [.nilFunc], 8, false⟩
  | 55 => ⟨true, .other, 1, false, [.nilFunc], 8, false⟩
  | 56 => ⟨true, .other, 1, false, [.nilFunc], 8, false⟩
  | 57 => ⟨true, .other, 1, false, [.nilFunc], 8, false⟩
  | 58 => ⟨true, .other, 1, false, [.nilFunc], 8, false⟩
  | 59 => ⟨true, .other, 1, false, [.nilFunc], 8, false⟩
  | 60 => ⟨true, .struct [(0, 25), (6, 38), (8, 38), (10, 3), (11, 22), (12, 30), (13, 27), (14, 22), (15, 22)], 16, true, [.int .u64 0, .int .i64 0, .int .i64 0, .slice none 0 0, .int .i64 0, .int .u64 0, .int .i64 0, .int .u64 0, .int .i64 0, .int .u64 0, .int .i64 0, .int .u64 0, .slice none 0 0, .slice none 0 0, .int .u64 0, .int .u64 0], 176, false⟩
  | 61 => ⟨true, .struct [(0, 25), (6, 38), (8, 38), (10, 3), (11, 22), (12, 30), (13, 27), (14, 22), (15, 22)], 16, true, [.int .u64 0, .int .i64 0, .int .i64 0, .slice none 0 0, .int .i64 0, .int .u64 0, .int .i64 0, .int .u64 0, .int .i64 0, .int .u64 0, .int .i64 0, .int .u64 0, .slice none 0 0, .slice none 0 0, .int .u64 0, .int .u64 0], 176, false⟩
  | 63 => ⟨true, .other, 1, false, [.nilFunc], 8, false⟩
  | 64 => ⟨true, .slice 9, 1, false, [.slice none 0 0], 24, false⟩
  | 65 => ⟨true, .other, 1, false, [.nilFunc], 8, false⟩
  | 67 => ⟨true, .other, 1, false, [.nilFunc], 8, false⟩
  | 69 => ⟨true, .other, 1, false, [.nilFunc], 8, false⟩
  | 70 => ⟨true, .other, 1, false, [.nilFunc], 8, false⟩
  | 71 => ⟨true, .slice 78, 1, false, [.slice none 0 0], 24, false⟩
  | 72 => ⟨true, .slice 75, 1, false, [.slice none 0 0], 24, false⟩
  | 73 => ⟨true, .other, 1, false, [.nilFunc], 8, false⟩
  | 74 => ⟨true, .struct [(0, 49), (10, 40), (19, 4)], 20, true, [.int .i64 0, .int .u64 0, .int .i64 0, .int .u64 0, .int .u64 0, .int .u64 0, .int .u64 0, .int .i64 0, .slice none 0 0, .slice none 0 0, .int .i64 0, .int .u64 0, .int .i64 0, .int .i64 0, .int .u64 0, .int .u64 0, .int .u64 0, .int .u64 0, .slice none 0 0, .bool false], 208, false⟩
  | 75 => ⟨true, .struct [(0, 49), (10, 40), (19, 4)], 20, true, [.int .i64 0, .int .u64 0, .int .i64 0, .int .u64 0, .int .u64 0, .int .u64 0, .int .u64 0, .int .i64 0, .slice none 0 0, .slice none 0 0, .int .i64 0, .int .u64 0, .int .i64 0, .int .i64 0, .int .u64 0, .int .u64 0, .int .u64 0, .int .u64 0, .slice none 0 0, .bool false], 208, false⟩
  | 76 => ⟨true, .other, 1, false, [.nilFunc], 8, false⟩
  | 77 => ⟨true, .struct [(0, 3), (1, 3)], 2, true, [.int .i64 0, .int .i64 0], 16, true⟩
  | 78 => ⟨true, .struct [(0, 3), (1, 3)], 2, true, [.int .i64 0, .int .i64 0], 16, true⟩
  | 79 => ⟨true, .other, 1, false, [.nilFunc], 8, false⟩
  | 80 => ⟨true, .other, 1, false, [.nilFunc], 8, false⟩
  | 81 => ⟨true, .other, 1, false, [.nilFunc], 8, false⟩
  | 82 => ⟨true, .other, 1, false, [.nilFunc], 8, false⟩
  | 83 => ⟨true, .slice 90, 1, false, [.slice none 0 0], 24, false⟩
  | 84 => ⟨true, .other, 1, false, [.nilFunc], 8, false⟩
  | 85 => ⟨true, .struct [(0, 25), (6, 22), (7, 3), (8, 30), (9, 22), (10, 22), (11, 30), (12, 30), (13, 27), (14, 23), (15, 30), (16, 22), (17, 22)], 18, true, [.int .u64 0, .int .i64 0, .int .i64 0, .slice none 0 0, .int .i64 0, .int .u64 0, .int .u64 0, .int .i64 0, .slice none 0 0, .int .u64 0, .int .u64 0, .slice none 0 0, .slice none 0 0, .slice none 0 0, .slice none 0 0, .slice none 0 0, .int .u64 0, .int .u64 0], 256, false⟩
  | 86 => ⟨true, .struct [(0, 25), (6, 22), (7, 3), (8, 30), (9, 22), (10, 22), (11, 30), (12, 30), (13, 27), (14, 23), (15, 30), (16, 22), (17, 22)], 18, true, [.int .u64 0, .int .i64 0, .int .i64 0, .slice none 0 0, .int .i64 0, .int .u64 0, .int .u64 0, .int .i64 0, .slice none 0 0, .int .u64 0, .int .u64 0, .slice none 0 0, .slice none 0 0, .slice none 0 0, .slice none 0 0, .slice none 0 0, .int .u64 0, .int .u64 0], 256, false⟩
  | 88 => ⟨true, .other, 1, false, [.nilFunc], 8, false⟩
  | 89 => ⟨true, .struct [(0, 3), (1, 3), (2, 22), (3, 40), (12, 30)], 13, true, [.int .i64 0, .int .i64 0, .int .u64 0, .int .i64 0, .int .u64 0, .int .i64 0, .int .i64 0, .int .u64 0, .int .u64 0, .int .u64 0, .int .u64 0, .slice none 0 0, .slice none 0 0], 136, false⟩
  | 90 => ⟨true, .struct [(0, 3), (1, 3), (2, 22), (3, 40), (12, 30)], 13, true, [.int .i64 0, .int .i64 0, .int .u64 0, .int .i64 0, .int .u64 0, .int .i64 0, .int .i64 0, .int .u64 0, .int .u64 0, .int .u64 0, .int .u64 0, .slice none 0 0, .slice none 0 0], 136, false⟩
  | 92 => ⟨true, .other, 1, false, [.nilFunc], 8, false⟩
  | 93 => ⟨true, .other, 1, false, [.nilFunc], 8, false⟩
  | 94 => ⟨true, .other, 1, false, [.nilFunc], 8, false⟩
  | 95 => ⟨true, .other, 1, false, [.nilFunc], 8, false⟩
  | 96 => ⟨true, .other, 1, false, [.nilFunc], 8, false⟩
  | 97 => ⟨true, .other, 1, false, [.nilFunc], 8, false⟩
  | 98 => ⟨true, .other, 1, false, [.nilFunc], 8, false⟩
  | 99 => ⟨true, .ptr 101, 1, false, [.pointer none], 8, false⟩
  | 100 => ⟨true, .struct [(0, 32), (8, 33)], 9, true, [.int .u64 0, .int .u64 0, .slice none 0 0, .int .i64 0, .int .u64 0, .int .u64 0, .int .i64 0, .slice none 0 0, .slice none 0 0], 120, false⟩
  | 101 => ⟨true, .struct [(0, 32), (8, 33)], 9, true, [.int .u64 0, .int .u64 0, .slice none 0 0, .int .i64 0, .int .u64 0, .int .u64 0, .int .i64 0, .slice none 0 0, .slice none 0 0], 120, false⟩
  | 102 => ⟨true, .other, 1, false, [.nilFunc], 8, false⟩
  | 103 => ⟨true, .other, 1, false, [.nilFunc], 8, false⟩
  | 104 => ⟨true, .other, 1, false, [.nilFunc], 8, false⟩
  | 105 => ⟨true, .struct [(0, 22), (1, 30)], 2, true, [.int .u64 0, .slice none 0 0], 32, false⟩
  | 106 => ⟨true, .struct [(0, 22), (1, 30)], 2, true, [.int .u64 0, .slice none 0 0], 32, false⟩
  | 107 => ⟨true, .other, 1, false, [.nilFunc], 8, false⟩
  | 108 => ⟨true, .other, 1, false, [.nilFunc], 8, false⟩
  | 109 => ⟨true, .other, 1, false, [.nilFunc], 8, false⟩
  | 110 => ⟨true, .other, 1, false, [.nilFunc], 8, false⟩
  | 111 => ⟨true, .other, 1, false, [.nilFunc], 8, false⟩
  | 113 => ⟨true, .other, 1, false, [.nilFunc], 8, false⟩
  | 114 => ⟨true, .slice 25, 1, false, [.slice none 0 0], 24, false⟩
  | 115 => ⟨true, .slice 230, 1, false, [.slice none 0 0], 24, false⟩
  | 116 => ⟨true, .slice 234, 1, false, [.slice none 0 0], 24, false⟩
  | 117 => ⟨true, .struct [(0, 22), (1, 22), (2, 115), (3, 114), (4, 116)], 5, true, [.int .u64 0, .int .u64 0, .slice none 0 0, .slice none 0 0, .slice none 0 0], 88, false⟩
  | 118 => ⟨true, .struct [(0, 22), (1, 22), (2, 115), (3, 114), (4, 116)], 5, true, [.int .u64 0, .int .u64 0, .slice none 0 0, .slice none 0 0, .slice none 0 0], 88, false⟩
  | 119 => ⟨true, .other, 1, false, [.nilFunc], 8, false⟩
  | 120 => ⟨true, .other, 1, false, [.nilFunc], 8, false⟩
  | 121 => ⟨true, .other, 1, false, [.nilFunc], 8, false⟩
  | 122 => ⟨true, .other, 1, false, [.nilFunc], 8, false⟩
  | 123 => ⟨true, .ptr 61, 1, false, [.pointer none], 8, false⟩
  | 124 => ⟨true, .other, 1, false, [.nilFunc], 8, false⟩
  | 125 => ⟨true, .other, 1, false, [.nilFunc], 8, false⟩
  | 126 => ⟨true, .other, 1, false, [.nilFunc], 8, false⟩
  | 127 => ⟨true, .other, 1, false, [.nilFunc], 8, false⟩
  | 128 => ⟨true, .other, 1, false, [.nilFunc], 8, false⟩
  | 129 => ⟨true, .other, 1, false, [.nilFunc], 8, false⟩
  | 131 => ⟨true, .other, 1, false, [.nilFunc], 8, false⟩
  | 132 => ⟨true, .ptr 135, 1, false, [.pointer none], 8, false⟩
  | 133 => ⟨true, .other, 1, false, [.nilFunc], 8, false⟩
  | 134 => ⟨true, .struct [(0, 86), (18, 33)], 19, true, [.int .u64 0, .int .i64 0, .int .i64 0, .slice none 0 0, .int .i64 0, .int .u64 0, .int .u64 0, .int .i64 0, .slice none 0 0, .int .u64 0, .int .u64 0, .slice none 0 0, .slice none 0 0, .slice none 0 0, .slice none 0 0, .slice none 0 0, .int .u64 0, .int .u64 0, .slice none 0 0], 280, false⟩
  | 135 => ⟨true, .struct [(0, 86), (18, 33)], 19, true, [.int .u64 0, .int .i64 0, .int .i64 0, .slice none 0 0, .int .i64 0, .int .u64 0, .int .u64 0, .int .i64 0, .slice none 0 0, .int .u64 0, .int .u64 0, .slice none 0 0, .slice none 0 0, .slice none 0 0, .slice none 0 0, .slice none 0 0, .int .u64 0, .int .u64 0, .slice none 0 0], 280, false⟩
  | 136 => ⟨true, .other, 1, false, [.nilFunc], 8, false⟩
  | 137 => ⟨true, .other, 1, false, [.nilFunc], 8, false⟩
  | 138 => ⟨true, .other, 1, false, [.nilFunc], 8, false⟩
  | 139 => ⟨true, .other, 1, false, [.nilFunc], 8, false⟩
  | 140 => ⟨true, .other, 1, false, [.nilFunc], 8, false⟩
  | 141 => ⟨true, .other, 1, false, [.nilFunc], 8, false⟩
  | 142 => ⟨true, .other, 1, false, [.nilFunc], 8, false⟩
  | 143 => ⟨true, .other, 1, false, [.nilFunc], 8, false⟩
  | 144 => ⟨true, .other, 1, false, [.nilFunc], 8, false⟩
  | 146 => ⟨true, .other, 1, false, [.nilFunc], 8, false⟩
  | 147 => ⟨true, .other, 1, false, [.nilFunc], 8, false⟩
  | 148 => ⟨true, .other, 1, false, [.nilFunc], 8, false⟩
  | 149 => ⟨true, .other, 1, false, [.nilFunc], 8, false⟩
  | 150 => ⟨true, .other, 1, false, [.nilFunc], 8, false⟩
  | 151 => ⟨true, .other, 1, false, [.nilFunc], 8, false⟩
  | 152 => ⟨true, .other, 1, false, [.nilFunc], 8, false⟩
  | 153 => ⟨true, .other, 1, false, [.nilFunc], 8, false⟩
  | 154 => ⟨true, .other, 1, false, [.nilFunc], 8, false⟩
  | 155 => ⟨true, .other, 1, false, [.nilFunc], 8, false⟩
  | 156 => ⟨true, .other, 1, false, [.nilFunc], 8, false⟩
  | 157 => ⟨true, .other, 1, false, [.nilFunc], 8, false⟩
  | 158 => ⟨true, .other, 1, false, [.nilFunc], 8, false⟩
  | 159 => ⟨true, .other, 1, false, [.nilFunc], 8, false⟩
  | 160 => ⟨true, .other, 1, false, [.nilFunc], 8, false⟩
  | 161 => ⟨true, .other, 1, false, [.nilFunc], 8, false⟩
  | 162 => ⟨true, .other, 1, false, [.nilFunc], 8, false⟩
  | 163 => ⟨true, .other, 1, false, [.nilFunc], 8, false⟩
  | 164 => ⟨true, .other, 1, false, [.nilFunc], 8, false⟩
  | 165 => ⟨true, .other, 1, false, [.nilFunc], 8, false⟩
  | 166 => ⟨true, .other, 1, false, [.nilFunc], 8, false⟩
  | 167 => ⟨true, .other, 1, false, [.nilFunc], 8, false⟩
  | 168 => ⟨true, .other, 1, false, [.nilFunc], 8, false⟩
  | 169 => ⟨true, .other, 1, false, [.nilFunc], 8, false⟩
  | 170 => ⟨true, .other, 1, false, [.nilFunc], 8, false⟩
  | 171 => ⟨true, .other, 1, false, [.nilFunc], 8, false⟩
  | 172 => ⟨true, .other, 1, false, [.nilFunc], 8, false⟩
  | 173 => ⟨true, .other, 1, false, [.nilFunc], 8, false⟩
  | 174 => ⟨true, .other, 1, false, [.nilFunc], 8, false⟩
  | 175 => ⟨true, .other, 1, false, [.nilFunc], 8, false⟩
  | 176 => ⟨true, .other, 1, false, [.nilFunc], 8, false⟩
  | 177 => ⟨true, .other, 1, false, [.nilFunc], 8, false⟩
  | 178 => ⟨true, .other, 1, false, [.nilFunc], 8, false⟩
  | 179 => ⟨true, .other, 1, false, [.nilFunc], 8, false⟩
  | 180 => ⟨true, .other, 1, false, [.nilFunc], 8, false⟩
  | 181 => ⟨true, .other, 1, false, [.nilFunc], 8, false⟩
  | 182 => ⟨true, .other, 1, false, [.nilFunc], 8, false⟩
  | 183 => ⟨true, .other, 1, false, [.nilFunc], 8, false⟩
  | 184 => ⟨true, .other, 1, false, [.nilFunc], 8, false⟩
  | 185 => ⟨true, .other, 1, false, [.nilFunc], 8, false⟩
  | 186 => ⟨true, .other, 1, false, [.nilFunc], 8, false⟩
  | 187 => ⟨true, .other, 1, false, [.nilFunc], 8, false⟩
  | 188 => ⟨true, .other, 1, false, [.nilFunc], 8, false⟩
  | 189 => ⟨true, .other, 1, false, [.nilFunc], 8, false⟩
  | 190 => ⟨true, .other, 1, false, [.nilFunc], 8, false⟩
  | 191 => ⟨true, .other, 1, false, [.nilFunc], 8, false⟩
  | 192 => ⟨true, .other, 1, false, [.nilFunc], 8, false⟩
  | 193 => ⟨true, .int .i64, 1, false, [.int .i64 0], 8, false⟩
  | 195 => ⟨true, .other, 1, false, [.nilFunc], 8, false⟩
  | 196 => ⟨true, .other, 1, false, [.nilFunc], 8, false⟩
  | 197 => ⟨true, .other, 1, false, [.nilFunc], 8, false⟩
  | 199 => ⟨true, .other, 1, false, [.nilFunc], 8, false⟩
  | 200 => ⟨true, .other, 1, false, [.nilFunc], 8, false⟩
  | 201 => ⟨true, .int .u32, 1, false, [.int .u32 0], 4, false⟩
  | 202 => ⟨true, .other, 1, false, [.nilFunc], 8, false⟩
  | 203 => ⟨true, .int .u64, 1, false, [.int .u64 0], 8, false⟩
  | 204 => ⟨true, .other, 1, false, [.nilFunc], 8, false⟩
  | 205 => ⟨true, .other, 1, false, [.nilFunc], 8, false⟩
  | 206 => ⟨true, .other, 1, false, [.nilFunc], 8, false⟩
  | 207 => ⟨true, .ptr 3, 1, false, [.pointer none], 8, false⟩
  | 208 => ⟨true, .other, 1, false, [.nilFunc], 8, false⟩
  | 209 => ⟨true, .ptr 203, 1, false, [.pointer none], 8, false⟩
  | 211 => ⟨true, .other, 1, false, [.nilFunc], 8, false⟩
  | 212 => ⟨true, .other, 1, false, [.nilFunc], 8, false⟩
  | 215 => ⟨true, .array 0 16, 0, true, [], 0, false⟩
  | 218 => ⟨true, .other, 1, false, [.nilFunc], 8, false⟩
  | 221 => ⟨true, .other, 1, false, [.nilFunc], 8, false⟩
  | 222 => ⟨true, .ptr 5, 1, false, [.pointer none], 8, false⟩
  | 225 => ⟨true, .struct [(0, 12), (1, 12), (2, 201), (3, 219), (4, 5), (5, 5), (6, 220), (7, 221), (8, 222), (9, 223), (10, 224)], 11, true, [.int .u64 0, .int .u64 0, .int .u32 0, .int .u8 0, .int .u8 0, .int .u8 0, .int .u8 0, .nilFunc, .pointer none, .int .i32 0, .int .i32 0], 48, false⟩
  | 227 => ⟨true, .slice 237, 1, false, [.slice none 0 0], 24, false⟩
  | 228 => ⟨true, .slice 239, 1, false, [.slice none 0 0], 24, false⟩
  | 229 => ⟨true, .struct [(0, 22), (1, 3), (2, 22), (3, 22), (4, 22), (5, 22), (6, 47), (7, 227), (8, 228)], 9, true, [.int .u64 0, .int .i64 0, .int .u64 0, .int .u64 0, .int .u64 0, .int .u64 0, .slice none 0 0, .slice none 0 0, .slice none 0 0], 120, false⟩
  | 230 => ⟨true, .struct [(0, 22), (1, 3), (2, 22), (3, 22), (4, 22), (5, 22), (6, 47), (7, 227), (8, 228)], 9, true, [.int .u64 0, .int .i64 0, .int .u64 0, .int .u64 0, .int .u64 0, .int .u64 0, .slice none 0 0, .slice none 0 0, .slice none 0 0], 120, false⟩
  | 231 => ⟨true, .struct [(0, 34), (1, 22), (2, 22), (3, 22), (4, 3)], 5, true, [.int .i64 0, .int .u64 0, .int .u64 0, .int .u64 0, .int .i64 0], 40, true⟩
  | 232 => ⟨true, .struct [(0, 34), (1, 22), (2, 22), (3, 22), (4, 3)], 5, true, [.int .i64 0, .int .u64 0, .int .u64 0, .int .u64 0, .int .i64 0], 40, true⟩
  | 233 => ⟨true, .struct [(0, 3), (1, 22), (2, 22), (3, 232)], 8, true, [.int .i64 0, .int .u64 0, .int .u64 0, .int .i64 0, .int .u64 0, .int .u64 0, .int .u64 0, .int .i64 0], 64, false⟩
  | 234 => ⟨true, .struct [(0, 3), (1, 22), (2, 22), (3, 232)], 8, true, [.int .i64 0, .int .u64 0, .int .u64 0, .int .i64 0, .int .u64 0, .int .u64 0, .int .u64 0, .int .i64 0], 64, false⟩
  | 236 => ⟨true, .struct [(0, 3), (1, 22), (2, 22)], 3, true, [.int .i64 0, .int .u64 0, .int .u64 0], 24, true⟩
  | 237 => ⟨true, .struct [(0, 3), (1, 22), (2, 22)], 3, true, [.int .i64 0, .int .u64 0, .int .u64 0], 24, true⟩
  | 238 => ⟨true, .struct [(0, 3), (1, 22)], 2, true, [.int .i64 0, .int .u64 0], 16, true⟩
  | 239 => ⟨true, .struct [(0, 3), (1, 22)], 2, true, [.int .i64 0, .int .u64 0], 16, true⟩
  | _ => ⟨false, .other, 1, false, [], 8, false⟩
def tyT : TypeId → TI := tyOf tabT 240
theorem tyT_ok : TyOk Try.prog tyT := TyOk.of (by kernel_rfl)
@[simp] theorem bytes1 : (tyT 1).bytes = 8 := rfl
@[simp] theorem bytes2 : (tyT 2).bytes = 8 := rfl
@[simp] theorem bytes3 : (tyT 3).bytes = 8 := rfl
@[simp] theorem bytes4 : (tyT 4).bytes = 1 := rfl
@[simp] theorem bytes5 : (tyT 5).bytes = 1 := rfl
@[simp] theorem bytes9 : (tyT 9).bytes = 16 := rfl
@[simp] theorem bytes12 : (tyT 12).bytes = 8 := rfl
@[simp] theorem bytes15 : (tyT 15).bytes = 8 := rfl
@[simp] theorem bytes16 : (tyT 16).bytes = 8 := rfl
@[simp] theorem bytes17 : (tyT 17).bytes = 8 := rfl
@[simp] theorem bytes21 : (tyT 21).bytes = 4 := rfl
@[simp] theorem bytes22 : (tyT 22).bytes = 8 := rfl
@[simp] theorem bytes23 : (tyT 23).bytes = 24 := rfl
@[simp] theorem bytes24 : (tyT 24).bytes = 64 := rfl
@[simp] theorem bytes25 : (tyT 25).bytes = 64 := rfl
@[simp] theorem bytes26 : (tyT 26).bytes = 24 := rfl
@[simp] theorem bytes27 : (tyT 27).bytes = 24 := rfl
@[simp] theorem bytes28 : (tyT 28).bytes = 8 := rfl
@[simp] theorem bytes29 : (tyT 29).bytes = 8 := rfl
@[simp] theorem bytes30 : (tyT 30).bytes = 24 := rfl
@[simp] theorem bytes31 : (tyT 31).bytes = 96 := rfl
@[simp] theorem bytes32 : (tyT 32).bytes = 96 := rfl
@[simp] theorem bytes33 : (tyT 33).bytes = 24 := rfl
@[simp] theorem bytes34 : (tyT 34).bytes = 8 := rfl
@[simp] theorem bytes36 : (tyT 36).bytes = 8 := rfl
@[simp] theorem bytes37 : (tyT 37).bytes = 16 := rfl
@[simp] theorem bytes38 : (tyT 38).bytes = 16 := rfl
@[simp] theorem bytes39 : (tyT 39).bytes = 88 := rfl
@[simp] theorem bytes40 : (tyT 40).bytes = 88 := rfl
@[simp] theorem bytes41 : (tyT 41).bytes = 176 := rfl
@[simp] theorem bytes42 : (tyT 42).bytes = 176 := rfl
@[simp] theorem bytes44 : (tyT 44).bytes = 8 := rfl
@[simp] theorem bytes45 : (tyT 45).bytes = 8 := rfl
@[simp] theorem bytes46 : (tyT 46).bytes = 8 := rfl
@[simp] theorem bytes47 : (tyT 47).bytes = 24 := rfl
@[simp] theorem bytes48 : (tyT 48).bytes = 112 := rfl
@[simp] theorem bytes49 : (tyT 49).bytes = 112 := rfl
@[simp] theorem bytes50 : (tyT 50).bytes = 8 := rfl
@[simp] theorem bytes51 : (tyT 51).bytes = 8 := rfl
@[simp] theorem bytes52 : (tyT 52).bytes = 8 := rfl
@[simp] theorem bytes53 : (tyT 53).bytes = 8 := rfl
@[simp] theorem bytes54 : (tyT 54).bytes = 8 := rfl
@[simp] theorem bytes55 : (tyT 55).bytes = 8 := rfl
@[simp] theorem bytes56 : (tyT 56).bytes = 8 := rfl
@[simp] theorem bytes57 : (tyT 57).bytes = 8 := rfl
@[simp] theorem bytes58 : (tyT 58).bytes = 8 := rfl
@[simp] theorem bytes59 : (tyT 59).bytes = 8 := rfl
@[simp] theorem bytes60 : (tyT 60).bytes = 176 := rfl
@[simp] theorem bytes61 : (tyT 61).bytes = 176 := rfl
@[simp] theorem bytes63 : (tyT 63).bytes = 8 := rfl
@[simp] theorem bytes64 : (tyT 64).bytes = 24 := rfl
@[simp] theorem bytes65 : (tyT 65).bytes = 8 := rfl
@[simp] theorem bytes67 : (tyT 67).bytes = 8 := rfl
@[simp] theorem bytes69 : (tyT 69).bytes = 8 := rfl
@[simp] theorem bytes70 : (tyT 70).bytes = 8 := rfl
@[simp] theorem bytes71 : (tyT 71).bytes = 24 := rfl
@[simp] theorem bytes72 : (tyT 72).bytes = 24 := rfl
@[simp] theorem bytes73 : (tyT 73).bytes = 8 := rfl
@[simp] theorem bytes74 : (tyT 74).bytes = 208 := rfl
@[simp] theorem bytes75 : (tyT 75).bytes = 208 := rfl
@[simp] theorem bytes76 : (tyT 76).bytes = 8 := rfl
@[simp] theorem bytes77 : (tyT 77).bytes = 16 := rfl
@[simp] theorem bytes78 : (tyT 78).bytes = 16 := rfl
@[simp] theorem bytes79 : (tyT 79).bytes = 8 := rfl
@[simp] theorem bytes80 : (tyT 80).bytes = 8 := rfl
@[simp] theorem bytes81 : (tyT 81).bytes = 8 := rfl
@[simp] theorem bytes82 : (tyT 82).bytes = 8 := rfl
@[simp] theorem bytes83 : (tyT 83).bytes = 24 := rfl
@[simp] theorem bytes84 : (tyT 84).bytes = 8 := rfl
@[simp] theorem bytes85 : (tyT 85).bytes = 256 := rfl
@[simp] theorem bytes86 : (tyT 86).bytes = 256 := rfl
@[simp] theorem bytes88 : (tyT 88).bytes = 8 := rfl
@[simp] theorem bytes89 : (tyT 89).bytes = 136 := rfl
@[simp] theorem bytes90 : (tyT 90).bytes = 136 := rfl
@[simp] theorem bytes92 : (tyT 92).bytes = 8 := rfl
@[simp] theorem bytes93 : (tyT 93).bytes = 8 := rfl
@[simp] theorem bytes94 : (tyT 94).bytes = 8 := rfl
@[simp] theorem bytes95 : (tyT 95).bytes = 8 := rfl
@[simp] theorem bytes96 : (tyT 96).bytes = 8 := rfl
@[simp] theorem bytes97 : (tyT 97).bytes = 8 := rfl
@[simp] theorem bytes98 : (tyT 98).bytes = 8 := rfl
@[simp] theorem bytes99 : (tyT 99).bytes = 8 := rfl
@[simp] theorem bytes100 : (tyT 100).bytes = 120 := rfl
@[simp] theorem bytes101 : (tyT 101).bytes = 120 := rfl
@[simp] theorem bytes102 : (tyT 102).bytes = 8 := rfl
@[simp] theorem bytes103 : (tyT 103).bytes = 8 := rfl
@[simp] theorem bytes104 : (tyT 104).bytes = 8 := rfl
@[simp] theorem bytes105 : (tyT 105).bytes = 32 := rfl
@[simp] theorem bytes106 : (tyT 106).bytes = 32 := rfl
@[simp] theorem bytes107 : (tyT 107).bytes = 8 := rfl
@[simp] theorem bytes108 : (tyT 108).bytes = 8 := rfl
@[simp] theorem bytes109 : (tyT 109).bytes = 8 := rfl
@[simp] theorem bytes110 : (tyT 110).bytes = 8 := rfl
@[simp] theorem bytes111 : (tyT 111).bytes = 8 := rfl
@[simp] theorem bytes113 : (tyT 113).bytes = 8 := rfl
@[simp] theorem bytes114 : (tyT 114).bytes = 24 := rfl
@[simp] theorem bytes115 : (tyT 115).bytes = 24 := rfl
@[simp] theorem bytes116 : (tyT 116).bytes = 24 := rfl
@[simp] theorem bytes117 : (tyT 117).bytes = 88 := rfl
@[simp] theorem bytes118 : (tyT 118).bytes = 88 := rfl
@[simp] theorem bytes119 : (tyT 119).bytes = 8 := rfl
@[simp] theorem bytes120 : (tyT 120).bytes = 8 := rfl
@[simp] theorem bytes121 : (tyT 121).bytes = 8 := rfl
@[simp] theorem bytes122 : (tyT 122).bytes = 8 := rfl
@[simp] theorem bytes123 : (tyT 123).bytes = 8 := rfl
@[simp] theorem bytes124 : (tyT 124).bytes = 8 := rfl
@[simp] theorem bytes125 : (tyT 125).bytes = 8 := rfl
@[simp] theorem bytes126 : (tyT 126).bytes = 8 := rfl
@[simp] theorem bytes127 : (tyT 127).bytes = 8 := rfl
@[simp] theorem bytes128 : (tyT 128).bytes = 8 := rfl
@[simp] theorem bytes129 : (tyT 129).bytes = 8 := rfl
@[simp] theorem bytes131 : (tyT 131).bytes = 8 := rfl
@[simp] theorem bytes132 : (tyT 132).bytes = 8 := rfl
@[simp] theorem bytes133 : (tyT 133).bytes = 8 := rfl
@[simp] theorem bytes134 : (tyT 134).bytes = 280 := rfl
@[simp] theorem bytes135 : (tyT 135).bytes = 280 := rfl
@[simp] theorem bytes136 : (tyT 136).bytes = 8 := rfl
@[simp] theorem bytes137 : (tyT 137).bytes = 8 := rfl
@[simp] theorem bytes138 : (tyT 138).bytes = 8 := rfl
@[simp] theorem bytes139 : (tyT 139).bytes = 8 := rfl
@[simp] theorem bytes140 : (tyT 140).bytes = 8 := rfl
@[simp] theorem bytes141 : (tyT 141).bytes = 8 := rfl
@[simp] theorem bytes142 : (tyT 142).bytes = 8 := rfl
@[simp] theorem bytes143 : (tyT 143).bytes = 8 := rfl
@[simp] theorem bytes144 : (tyT 144).bytes = 8 := rfl
@[simp] theorem bytes146 : (tyT 146).bytes = 8 := rfl
@[simp] theorem bytes147 : (tyT 147).bytes = 8 := rfl
@[simp] theorem bytes148 : (tyT 148).bytes = 8 := rfl
@[simp] theorem bytes149 : (tyT 149).bytes = 8 := rfl
@[simp] theorem bytes150 : (tyT 150).bytes = 8 := rfl
@[simp] theorem bytes151 : (tyT 151).bytes = 8 := rfl
@[simp] theorem bytes152 : (tyT 152).bytes = 8 := rfl
@[simp] theorem bytes153 : (tyT 153).bytes = 8 := rfl
@[simp] theorem bytes154 : (tyT 154).bytes = 8 := rfl
@[simp] theorem bytes155 : (tyT 155).bytes = 8 := rfl
@[simp] theorem bytes156 : (tyT 156).bytes = 8 := rfl
@[simp] theorem bytes157 : (tyT 157).bytes = 8 := rfl
@[simp] theorem bytes158 : (tyT 158).bytes = 8 := rfl
@[simp] theorem bytes159 : (tyT 159).bytes = 8 := rfl
@[simp] theorem bytes160 : (tyT 160).bytes = 8 := rfl
@[simp] theorem bytes161 : (tyT 161).bytes = 8 := rfl
@[simp] theorem bytes162 : (tyT 162).bytes = 8 := rfl
@[simp] theorem bytes163 : (tyT 163).bytes = 8 := rfl
@[simp] theorem bytes164 : (tyT 164).bytes = 8 := rfl
@[simp] theorem bytes165 : (tyT 165).bytes = 8 := rfl
@[simp] theorem bytes166 : (tyT 166).bytes = 8 := rfl
@[simp] theorem bytes167 : (tyT 167).bytes = 8 := rfl
@[simp] theorem bytes168 : (tyT 168).bytes = 8 := rfl
@[simp] theorem bytes169 : (tyT 169).bytes = 8 := rfl
@[simp] theorem bytes170 : (tyT 170).bytes = 8 := rfl
@[simp] theorem bytes171 : (tyT 171).bytes = 8 := rfl
@[simp] theorem bytes172 : (tyT 172).bytes = 8 := rfl
@[simp] theorem bytes173 : (tyT 173).bytes = 8 := rfl
@[simp] theorem bytes174 : (tyT 174).bytes = 8 := rfl
@[simp] theorem bytes175 : (tyT 175).bytes = 8 := rfl
@[simp] theorem bytes176 : (tyT 176).bytes = 8 := rfl
@[simp] theorem bytes177 : (tyT 177).bytes = 8 := rfl
@[simp] theorem bytes178 : (tyT 178).bytes = 8 := rfl
@[simp] theorem bytes179 : (tyT 179).bytes = 8 := rfl
@[simp] theorem bytes180 : (tyT 180).bytes = 8 := rfl
@[simp] theorem bytes181 : (tyT 181).bytes = 8 := rfl
@[simp] theorem bytes182 : (tyT 182).bytes = 8 := rfl
@[simp] theorem bytes183 : (tyT 183).bytes = 8 := rfl
@[simp] theorem bytes184 : (tyT 184).bytes = 8 := rfl
@[simp] theorem bytes185 : (tyT 185).bytes = 8 := rfl
@[simp] theorem bytes186 : (tyT 186).bytes = 8 := rfl
@[simp] theorem bytes187 : (tyT 187).bytes = 8 := rfl
@[simp] theorem bytes188 : (tyT 188).bytes = 8 := rfl
@[simp] theorem bytes189 : (tyT 189).bytes = 8 := rfl
@[simp] theorem bytes190 : (tyT 190).bytes = 8 := rfl
@[simp] theorem bytes191 : (tyT 191).bytes = 8 := rfl
@[simp] theorem bytes192 : (tyT 192).bytes = 8 := rfl
@[simp] theorem bytes193 : (tyT 193).bytes = 8 := rfl
@[simp] theorem bytes195 : (tyT 195).bytes = 8 := rfl
@[simp] theorem bytes196 : (tyT 196).bytes = 8 := rfl
@[simp] theorem bytes197 : (tyT 197).bytes = 8 := rfl
@[simp] theorem bytes199 : (tyT 199).bytes = 8 := rfl
@[simp] theorem bytes200 : (tyT 200).bytes = 8 := rfl
@[simp] theorem bytes201 : (tyT 201).bytes = 4 := rfl
@[simp] theorem bytes202 : (tyT 202).bytes = 8 := rfl
@[simp] theorem bytes203 : (tyT 203).bytes = 8 := rfl
@[simp] theorem bytes204 : (tyT 204).bytes = 8 := rfl
@[simp] theorem bytes205 : (tyT 205).bytes = 8 := rfl
@[simp] theorem bytes206 : (tyT 206).bytes = 8 := rfl
@[simp] theorem bytes207 : (tyT 207).bytes = 8 := rfl
@[simp] theorem bytes208 : (tyT 208).bytes = 8 := rfl
@[simp] theorem bytes209 : (tyT 209).bytes = 8 := rfl
@[simp] theorem bytes211 : (tyT 211).bytes = 8 := rfl
@[simp] theorem bytes212 : (tyT 212).bytes = 8 := rfl
@[simp] theorem bytes215 : (tyT 215).bytes = 0 := rfl
@[simp] theorem bytes218 : (tyT 218).bytes = 8 := rfl
@[simp] theorem bytes221 : (tyT 221).bytes = 8 := rfl
@[simp] theorem bytes222 : (tyT 222).bytes = 8 := rfl
@[simp] theorem bytes225 : (tyT 225).bytes = 48 := rfl
@[simp] theorem bytes227 : (tyT 227).bytes = 24 := rfl
@[simp] theorem bytes228 : (tyT 228).bytes = 24 := rfl
@[simp] theorem bytes229 : (tyT 229).bytes = 120 := rfl
@[simp] theorem bytes230 : (tyT 230).bytes = 120 := rfl
@[simp] theorem bytes231 : (tyT 231).bytes = 40 := rfl
@[simp] theorem bytes232 : (tyT 232).bytes = 40 := rfl
@[simp] theorem bytes233 : (tyT 233).bytes = 64 := rfl
@[simp] theorem bytes234 : (tyT 234).bytes = 64 := rfl
@[simp] theorem bytes236 : (tyT 236).bytes = 24 := rfl
@[simp] theorem bytes237 : (tyT 237).bytes = 24 := rfl
@[simp] theorem bytes238 : (tyT 238).bytes = 16 := rfl
@[simp] theorem bytes239 : (tyT 239).bytes = 16 := rfl
theorem mixed : Try.prog.follows .mixedOrders = true := by kernel_rfl
end Go.Proofs.Try
set_option linter.unusedVariables false
set_option linter.unusedSimpArgs false
open Go Go.AM
namespace Go.Proofs.Try
set_option maxRecDepth 100000
set_option maxHeartbeats 4000000
theorem eqP (a b : Pl) : (a.node == b.node && (a.serial == b.serial && true)) = (a == b) := by
  cases a; cases b
  rw [Bool.eq_iff_iff]
  simp
theorem index_spec (l : List Pl) (p : Pl) (h : Hp) (Q : AV → Hp → List Blk → Prop) (hl : l.length < 2^62) (hQ : Q (aint (idxF l (· == p))) h []) : SemC Try.prog 97 [sP l, encP p] h Q := by
  refine SemC.enter func97 rfl (Nat.le_of_ble_eq_true rfl) fresh fresh_nodup ?_
  refine SemW.go tyT_ok mixed ?_
  conv => arg 7; whnf
  refine Holds.mk (by first | (simp; done) | (simp; omega) | omega) ?_
  refine SemW.loop (X := {i : Nat // i ≤ l.findIdx (· == p)}) (fun i => [(0, sP l), (7, aint l.length), (3, .ptr (.l 0) 0), (8, aint i.1)]) (fun _ => [(0, .obj [.val (.int .i64 p.node), .val (.int .u64 p.serial)])]) (fun _ => fresh1) (fun i => l.length - i.1) ⟨0, Nat.zero_le _⟩ (SemW.cut ⟨rfl, rfl, rfl, rfl, trivial⟩ ⟨rfl, trivial⟩ fresh1_nodup rfl rfl) (fun ⟨i, hi⟩ IH => ?_)
  dsimp only at hi IH ⊢
  refine SemW.go tyT_ok mixed ?_
  conv => arg 7; whnf
  refine Holds.mk (by first | (simp; done) | (simp; omega) | omega) ?_
  refine SemW.cond rfl (fun c1 => ?_) (fun c1 => ?_)
  · have hil : i < l.length := by simpa using c1
    have hg : l.getD i ⟨0, 0⟩ = l[i] := by simp [hil]
    refine SemW.go tyT_ok mixed ?_
    conv => arg 7; whnf
    refine Holds.mk ((by simp; exact hil)) ?_
    refine SemW.cond rfl (fun c2 => ?_) (fun c2 => ?_)
    · refine SemW.go tyT_ok mixed ?_
      conv => arg 7; whnf
      refine Holds.mk (by first | (simp; done) | (simp; omega) | omega) ?_
      refine SemW.ret0 tyT_ok func97 rfl rfl rfl ?_
      have hp : (l[i] == p) = true := by
        rw [← hg, ← eqP]
        simp at c2 ⊢
        exact ⟨c2.1.symm, c2.2.symm⟩
      have hf : l.findIdx (· == p) = i := by
        refine Nat.le_antisymm (Nat.le_of_not_lt fun hlt => ?_) hi
        have := List.not_of_lt_findIdx hlt
        rw [hp] at this
        cases this
      have : idxF l (· == p) = (i : Int) := by simp [idxF, hf, hil]
      rw [this] at hQ
      exact hQ
    · refine SemW.go tyT_ok mixed ?_
      conv => arg 7; whnf
      refine Holds.mk (by first | (simp; done) | (simp; omega) | omega) ?_
      have hp : (l[i] == p) = false := by
        rw [← hg, ← eqP]
        simp at c2 ⊢
        intro h1 h2
        exact c2 h1.symm h2.symm
      have hi' : i + 1 ≤ l.findIdx (· == p) := by
        refine Nat.lt_of_le_of_ne hi fun e => ?_
        have h2 : l.findIdx (· == p) < l.length := by omega
        have := List.findIdx_getElem (w := h2)
        simp only [← e] at this
        rw [hp] at this
        cases this
      have IH' := IH ⟨i + 1, hi'⟩ (by show l.length - (i + 1) < l.length - i; omega)
      refine SemW.cut ?_ ?_ fresh1_nodup rfl rfl IH'
      · exact ⟨rfl, rfl, rfl, incI (by omega), trivial⟩
      · exact ⟨rfl, trivial⟩
  · refine SemW.go tyT_ok mixed ?_
    conv => arg 7; whnf
    refine Holds.mk (by first | (simp; done) | (simp; omega) | omega) ?_
    refine SemW.ret0 tyT_ok func97 rfl rfl rfl ?_
    have : idxF l (· == p) = -1 := by
      simp at c1
      rw [idxF, if_neg (by omega)]
    rw [this] at hQ
    exact hQ
theorem contains_spec (l : List Pl) (p : Pl) (h : Hp) (Q : AV → Hp → List Blk → Prop) (hl : l.length < 2^62) (hQ : Q (abool (l.any (· == p))) h []) : SemC Try.prog 53 [sP l, encP p] h Q := by
  refine SemC.enter func53 rfl (Nat.le_of_ble_eq_true rfl) fresh fresh_nodup ?_
  refine SemW.go tyT_ok mixed ?_
  conv => arg 7; whnf
  refine Holds.mk (by first | (simp; done) | (simp; omega) | omega) ?_
  refine SemW.call0 rfl rfl func97 rfl rfl ?_
  refine index_spec l p _ _ hl ⟨rfl, rfl, _, rfl, rfl, rfl, ?_⟩
  refine SemW.go tyT_ok mixed ?_
  conv => arg 7; whnf
  refine Holds.mk (by first | (simp; done) | (simp; omega) | omega) ?_
  refine SemW.ret0 tyT_ok func53 rfl rfl rfl ?_
  have : decide (0 ≤ idxF l (· == p)) = l.any (· == p) := idxF_any l _
  rw [← this] at hQ
  exact hQ
end Go.Proofs.Try
set_option linter.unusedVariables false
set_option linter.unusedSimpArgs false
open Go Go.AM
namespace Go.Proofs.Try
set_option maxRecDepth 100000
set_option maxHeartbeats 4000000
theorem indexFunc_spec (l : List Pl) (cf : Nat) (g : Func) (caps : List AV) (is : Pl → Bool) (h : Hp) (Q : AV → Hp → List Blk → Prop) (hl : l.length < 2^62) (hcaps : renL .o caps = caps) (hf : Try.prog.funcs[cf]? = some g) (hn : (g.name == "runtime.NumGoroutine") = false) (hb : g.body.isSome = true)
    (hc : ∀ p ∈ l, ∀ h Q, Q (abool (is p)) h [] → SemC Try.prog cf ([encP p] ++ caps) h Q) (hQ : Q (aint (idxF l is)) h []) : SemC Try.prog 101 [sP l, .fn cf caps] h Q := by
  refine SemC.enter func101 rfl (Nat.le_of_ble_eq_true rfl) fresh fresh_nodup ?_
  have e : renL .o [sP l, .fn cf caps] = [sP l, .fn cf caps] := by simp [renL, AV.ren, sP, hcaps]
  rw [e]
  refine SemW.go tyT_ok mixed ?_
  conv => arg 7; whnf
  refine Holds.mk (by first | (simp; done) | (simp; omega) | omega) ?_
  refine SemW.loop (X := {i : Nat // i ≤ l.findIdx is}) (fun i => [(0, sP l), (1, .fn cf caps), (7, aint l.length), (8, aint i.1)]) (fun _ => []) (fun _ => fresh) (fun i => l.length - i.1) ⟨0, Nat.zero_le _⟩ (SemW.cut ⟨rfl, rfl, rfl, rfl, trivial⟩ trivial fresh_nodup (by simp [avoidT, AV.avoid, sP, avoid_caps hcaps]) rfl) (fun ⟨i, hi⟩ IH => ?_)
  dsimp only at hi IH ⊢
  refine SemW.go tyT_ok mixed ?_
  conv => arg 7; whnf
  refine Holds.mk (by first | (simp; done) | (simp; omega) | omega) ?_
  refine SemW.cond rfl (fun c1 => ?_) (fun c1 => ?_)
  · have hil : i < l.length := by simpa using c1
    have hg : l.getD i ⟨0, 0⟩ = l[i] := by simp [hil]
    refine SemW.go tyT_ok mixed ?_
    conv => arg 7; whnf
    refine Holds.mk ((by simp; exact hil)) ?_
    refine SemW.call0 rfl rfl hf hn hb ?_
    have hcall := hc l[i] (List.getElem_mem hil)
    rw [← hg] at hcall
    refine hcall _ _ ⟨rfl, rfl, _, rfl, rfl, rfl, ?_⟩
    refine SemW.go tyT_ok mixed ?_
    conv => arg 7; whnf
    refine Holds.mk (by first | (simp; done) | (simp; omega) | omega) ?_
    refine SemW.cond rfl (fun c2 => ?_) (fun c2 => ?_)
    · refine SemW.go tyT_ok mixed ?_
      conv => arg 7; whnf
      refine Holds.mk (by first | (simp; done) | (simp; omega) | omega) ?_
      refine SemW.ret0 tyT_ok func101 rfl rfl rfl ?_
      rw [hg] at c2
      have hfi : l.findIdx is = i := by
        refine Nat.le_antisymm (Nat.le_of_not_lt fun hlt => ?_) hi
        have := List.not_of_lt_findIdx hlt
        rw [c2] at this
        cases this
      have : idxF l is = (i : Int) := by simp [idxF, hfi, hil]
      rw [this] at hQ
      exact hQ
    · refine SemW.go tyT_ok mixed ?_
      conv => arg 7; whnf
      refine Holds.mk (by first | (simp; done) | (simp; omega) | omega) ?_
      rw [hg] at c2
      have hi' : i + 1 ≤ l.findIdx is := by
        refine Nat.lt_of_le_of_ne hi fun e => ?_
        have h2 : l.findIdx is < l.length := by omega
        have := List.findIdx_getElem (w := h2)
        simp only [← e] at this
        rw [c2] at this
        cases this
      have IH' := IH ⟨i + 1, hi'⟩ (by show l.length - (i + 1) < l.length - i; omega)
      refine SemW.cut ?_ ?_ fresh_nodup (by simp [avoidT, AV.avoid, sP, avoid_caps hcaps]) rfl IH'
      · exact ⟨rfl, rfl, rfl, incI (by omega), trivial⟩
      · trivial
  · refine SemW.go tyT_ok mixed ?_
    conv => arg 7; whnf
    refine Holds.mk (by first | (simp; done) | (simp; omega) | omega) ?_
    refine SemW.ret0 tyT_ok func101 rfl rfl rfl ?_
    have : idxF l is = -1 := by
      simp at c1
      rw [idxF, if_neg (by omega)]
    rw [this] at hQ
    exact hQ
theorem containsFunc_spec (l : List Pl) (cf : Nat) (g : Func) (caps : List AV) (is : Pl → Bool) (h : Hp) (Q : AV → Hp → List Blk → Prop) (hl : l.length < 2^62) (hcaps : renL .o caps = caps) (hf : Try.prog.funcs[cf]? = some g) (hn : (g.name == "runtime.NumGoroutine") = false) (hb : g.body.isSome = true)
    (hc : ∀ p ∈ l, ∀ h Q, Q (abool (is p)) h [] → SemC Try.prog cf ([encP p] ++ caps) h Q) (hQ : Q (abool (l.any is)) h []) : SemC Try.prog 104 [sP l, .fn cf caps] h Q := by
  refine SemC.enter func104 rfl (Nat.le_of_ble_eq_true rfl) fresh fresh_nodup ?_
  have e : renL .o [sP l, .fn cf caps] = [sP l, .fn cf caps] := by simp [renL, AV.ren, sP, hcaps]
  rw [e]
  refine SemW.go tyT_ok mixed ?_
  conv => arg 7; whnf
  refine Holds.mk (by first | (simp; done) | (simp; omega) | omega) ?_
  refine SemW.call0 rfl rfl func101 rfl rfl ?_
  refine indexFunc_spec l cf g caps is _ _ hl hcaps hf hn hb hc ⟨rfl, rfl, _, rfl, rfl, rfl, ?_⟩
  refine SemW.go tyT_ok mixed ?_
  conv => arg 7; whnf
  refine Holds.mk (by first | (simp; done) | (simp; omega) | omega) ?_
  refine SemW.ret0 tyT_ok func104 rfl rfl rfl ?_
  have : decide (0 ≤ idxF l is) = l.any is := idxF_any l _
  rw [← this] at hQ
  exact hQ
theorem has_spec (l : List Pl) (p : Pl) (h : Hp) (Q : AV → Hp → List Blk → Prop) (hl : l.length < 2^62) (hQ : Q (abool (l.any (· == p))) h []) : SemC Try.prog 19 [sP l, encP p] h Q := by
  refine SemC.enter func19 rfl (Nat.le_of_ble_eq_true rfl) fresh fresh_nodup ?_
  refine SemW.go tyT_ok mixed ?_
  conv => arg 7; whnf
  refine Holds.mk (by first | (simp; done) | (simp; omega) | omega) ?_
  refine SemW.loop (X := {i : Nat // ∀ j (hj : j < l.length), j < i → (l[j] == p) = false}) (fun i => [(0, sP l), (3, .ptr (.l 0) 0), (5, aint i.1)]) (fun _ => [(0, .obj [.val (.int .i64 p.node), .val (.int .u64 p.serial)])]) (fun _ => fresh1) (fun i => l.length - i.1) ⟨0, fun j _ hj => by omega⟩ (SemW.cut ⟨rfl, rfl, rfl, trivial⟩ ⟨rfl, trivial⟩ fresh1_nodup rfl rfl) (fun ⟨i, hi⟩ IH => ?_)
  dsimp only at hi IH ⊢
  refine SemW.go tyT_ok mixed ?_
  conv => arg 7; whnf
  refine Holds.mk (by first | (simp; done) | (simp; omega) | omega) ?_
  refine SemW.cond rfl (fun c1 => ?_) (fun c1 => ?_)
  · have hil : i < l.length := by simpa using c1
    have hg : l.getD i ⟨0, 0⟩ = l[i] := by simp [hil]
    refine SemW.go tyT_ok mixed ?_
    conv => arg 7; whnf
    refine Holds.mk ((by simp; exact hil)) ?_
    refine SemW.cond rfl (fun c2 => ?_) (fun c2 => ?_)
    · refine SemW.go tyT_ok mixed ?_
      conv => arg 7; whnf
      refine Holds.mk (by first | (simp; done) | (simp; omega) | omega) ?_
      refine SemW.ret0 tyT_ok func19 rfl rfl rfl ?_
      have hp : (l[i] == p) = true := by
        rw [← hg, ← eqP]
        simpa using c2
      have : l.any (· == p) = true := List.any_eq_true.2 ⟨l[i], List.getElem_mem hil, hp⟩
      rw [this] at hQ
      exact hQ
    · refine SemW.go tyT_ok mixed ?_
      conv => arg 7; whnf
      refine Holds.mk (by first | (simp; done) | (simp; omega) | omega) ?_
      have hp : (l[i] == p) = false := by
        rw [← hg, ← eqP]
        simpa using c2
      have IH' := IH ⟨i + 1, fun j hj hji => by
        by_cases e : j = i
        · subst e; exact hp
        · exact hi j hj (by omega)⟩ (by show l.length - (i + 1) < l.length - i; omega)
      refine SemW.cut ?_ ?_ fresh1_nodup rfl rfl IH'
      · exact ⟨rfl, rfl, incI (by omega), trivial⟩
      · exact ⟨rfl, trivial⟩
  · refine SemW.go tyT_ok mixed ?_
    conv => arg 7; whnf
    refine Holds.mk (by first | (simp; done) | (simp; omega) | omega) ?_
    refine SemW.ret0 tyT_ok func19 rfl rfl rfl ?_
    have : l.any (· == p) = false := by
      simp at c1
      rw [List.any_eq_false]
      intro x hx
      obtain ⟨j, hj, rfl⟩ := List.getElem_of_mem hx
      have := hi j hj (by omega)
      simpa using this
    rw [this] at hQ
    exact hQ
end Go.Proofs.Try
set_option linter.unusedVariables false
set_option linter.unusedSimpArgs false
open Go Go.AM
namespace Go.Proofs.Try
set_option maxRecDepth 100000
set_option maxHeartbeats 4000000
theorem clone_spec (l : List Pl) (h : Hp) (Q : AV → Hp → List Blk → Prop) (hl : l.length < 2^40) (hQ : Q (sP l) h []) : SemC Try.prog 96 [sP l] h Q := by
  refine SemC.enter func96 rfl (Nat.le_of_ble_eq_true rfl) fresh fresh_nodup ?_
  refine SemW.go tyT_ok mixed ?_
  conv => arg 7; whnf
  refine Holds.mk (by first | (simp; done) | (simp; omega) | omega) ?_
  refine SemW.eqNil tyT_ok rfl rfl fun b hb => ?_
  refine SemW.go tyT_ok mixed ?_
  conv => arg 7; whnf
  refine Holds.mk (by first | (simp; done) | (simp; omega) | omega) ?_
  refine SemW.cond rfl (fun c1 => ?_) (fun c1 => ?_)
  · have hl0 : l = [] := by simpa using hb c1
    subst hl0
    refine SemW.go tyT_ok mixed ?_
    conv => arg 7; whnf
    refine Holds.mk (by first | (simp; done) | (simp; omega) | omega) ?_
    refine SemW.weak (T' := [(2, sP [])]) (L' := []) ⟨AvLe.nil _ _ _ _, trivial⟩ trivial ?_
    refine SemW.ret0 tyT_ok func96 rfl rfl rfl ?_
    exact hQ
  · refine SemW.go tyT_ok mixed ?_
    conv => arg 7; whnf
    refine Holds.mk ((by simp; omega)) ?_
    refine SemW.frzW (T' := [(2, sP l)]) (L' := []) 0 rfl rfl ⟨AvLe.sP (by omega) (fun j _ => by simp [blt_zero]), ⟨by simp [Blk.num], rfl⟩, trivial⟩ trivial ?_
    refine SemW.ret0 tyT_ok func96 rfl rfl rfl ?_
    exact hQ
end Go.Proofs.Try
set_option linter.unusedVariables false
set_option linter.unusedSimpArgs false
open Go Go.AM
namespace Go.Proofs.Try
set_option maxRecDepth 100000
set_option maxHeartbeats 4000000
theorem frag1_spec (f : Fr) (n : Int) (h : Hp) (Q : AV → Hp → List Blk → Prop) (hQ : Q (abool (decide (f.first ≤ n))) h []) : SemC Try.prog 130 [encF f, .vp true 1 (.agg [.val (.int .u64 n)]) 0] h Q := by
  refine SemC.enter func130 rfl (Nat.le_of_ble_eq_true rfl) fresh fresh_nodup ?_
  refine SemW.go tyT_ok mixed ?_
  conv => arg 7; whnf
  refine Holds.mk (by first | (simp; done) | (simp; omega) | omega) ?_
  refine SemW.ret0 tyT_ok func130 rfl rfl rfl ?_
  exact hQ
theorem last_spec (l : List Fr) (cf : Nat) (g : Func) (caps : List AV) (is : Fr → Bool) (h : Hp) (Q : AV → Hp → List Blk → Prop) (hl : l.length < 2^62) (hcaps : renL .o caps = caps) (hf : Try.prog.funcs[cf]? = some g) (hn : (g.name == "runtime.NumGoroutine") = false) (hb : g.body.isSome = true)
    (hc : ∀ p ∈ l, ∀ h Q, Q (abool (is p)) h [] → SemC Try.prog cf ([encF p] ++ caps) h Q) (hQ : Q (.tup [encF (lastF l is), abool (l.any is)]) h []) : SemC Try.prog 129 [sF l, .fn cf caps] h Q := by
  refine SemC.enter func129 rfl (Nat.le_of_ble_eq_true rfl) fresh fresh_nodup ?_
  have e : renL .o [sF l, .fn cf caps] = [sF l, .fn cf caps] := by simp [renL, AV.ren, sF, hcaps]
  rw [e]
  refine SemW.go tyT_ok mixed ?_
  conv => arg 7; whnf
  refine Holds.mk (by first | (simp; done) | (simp; omega) | omega) ?_
  refine SemW.loop (X := {i : Nat // i ≤ l.length}) (fun i => [(0, sF l), (1, .fn cf caps), (4, .ptr (.l 0) 0), (5, abool ((l.take i.1).any is)), (8, sF l), (9, aint l.length), (10, aint i.1)]) (fun i => [(0, .obj [.val (.int .u64 (lastF (l.take i.1) is).first), sP (lastF (l.take i.1) is).books])]) (fun _ => fresh1) (fun i => l.length - i.1) ⟨0, Nat.zero_le _⟩ (SemW.cutW ⟨AvLe.refl _, AvLe.refl _, AvLe.refl _, AvLe.refl _, AvLe.refl _, AvLe.refl _, AvLe.refl _, trivial⟩ ⟨⟨_, rfl, BlkLe.obj ⟨AvLe.refl _, AvLe.nil _ _ _ _, trivial⟩⟩, trivial⟩ fresh1_nodup (by simp only [avoidT, AV.avoid, sF, avoid_caps hcaps]; rfl) rfl) (fun ⟨i, hi⟩ IH => ?_)
  dsimp only at hi IH ⊢
  refine SemW.go tyT_ok mixed ?_
  conv => arg 7; whnf
  refine Holds.mk (by first | (simp; done) | (simp; omega) | omega) ?_
  refine SemW.cond rfl (fun c1 => ?_) (fun c1 => ?_)
  · have hil : i < l.length := by simpa using c1
    have hg : l.getD i ⟨0, []⟩ = l[i] := by simp [hil]
    refine SemW.go tyT_ok mixed ?_
    conv => arg 7; whnf
    refine Holds.mk ((by simp; exact hil)) ?_
    refine SemW.call0 rfl rfl hf hn hb ?_
    have hcall := hc l[i] (List.getElem_mem hil)
    rw [← hg] at hcall
    refine hcall _ _ ⟨rfl, rfl, _, rfl, rfl, rfl, ?_⟩
    refine SemW.go tyT_ok mixed ?_
    conv => arg 7; whnf
    refine Holds.mk (by first | (simp; done) | (simp; omega) | omega) ?_
    refine SemW.cond rfl (fun c2 => ?_) (fun c2 => ?_)
    · refine SemW.go tyT_ok mixed ?_
      conv => arg 7; whnf
      refine Holds.mk (by first | (simp; done) | (simp; omega) | omega) ?_
      have IH' := IH ⟨i + 1, hil⟩ (by show l.length - (i + 1) < l.length - i; omega)
      dsimp only at IH'
      refine SemW.cutW ?_ ?_ fresh1_nodup (by simp only [avoidT, AV.avoid, sF, avoid_caps hcaps]; rfl) rfl IH'
      · obtain ⟨t1, t2⟩ := lastF_take (is := is) hil
        rw [hg] at c2
        rw [c2, Bool.or_true] at t2
        rw [t2]
        exact ⟨AvLe.refl _, AvLe.refl _, AvLe.refl _, AvLe.refl _, AvLe.refl _, AvLe.refl _, AvLe.of (incI (by omega)), trivial⟩
      · obtain ⟨t1, t2⟩ := lastF_take (is := is) hil
        rw [hg] at c2
        rw [c2, if_pos rfl] at t1
        rw [t1, ← hg]
        exact ⟨⟨_, rfl, BlkLe.refl _⟩, trivial⟩
    · refine SemW.go tyT_ok mixed ?_
      conv => arg 7; whnf
      refine Holds.mk (by first | (simp; done) | (simp; omega) | omega) ?_
      have IH' := IH ⟨i + 1, hil⟩ (by show l.length - (i + 1) < l.length - i; omega)
      dsimp only at IH'
      refine SemW.cutW ?_ ?_ fresh1_nodup (by simp only [avoidT, AV.avoid, sF, avoid_caps hcaps]; rfl) rfl IH'
      · obtain ⟨t1, t2⟩ := lastF_take (is := is) hil
        rw [hg] at c2
        rw [c2, Bool.or_false] at t2
        rw [t2]
        exact ⟨AvLe.refl _, AvLe.refl _, AvLe.refl _, AvLe.refl _, AvLe.refl _, AvLe.refl _, AvLe.of (incI (by omega)), trivial⟩
      · obtain ⟨t1, t2⟩ := lastF_take (is := is) hil
        rw [hg] at c2
        rw [c2, if_neg (by simp)] at t1
        rw [t1]
        exact ⟨⟨_, rfl, BlkLe.refl _⟩, trivial⟩
  · have : i = l.length := by simp at c1; omega
    subst this
    rw [List.take_length] at *
    refine SemW.go tyT_ok mixed ?_
    conv => arg 7; whnf
    refine Holds.mk (by first | (simp; done) | (simp; omega) | omega) ?_
    refine SemW.ret0 tyT_ok func129 rfl rfl rfl ?_
    exact hQ
theorem sfrag_spec (l : List Fr) (n : Int) (h : Hp) (Q : AV → Hp → List Blk → Prop) (hl : l.length < 2^62) (hb : ∀ f ∈ l, f.books.length < 2^40) (hQ : Q (.tup [encF (lastF l fun f => decide (f.first ≤ n)), abool (l.any fun f => decide (f.first ≤ n))]) h []) : SemC Try.prog 94 [sF l, .val (.int .u64 n)] h Q := by
  refine SemC.enter func94 rfl (Nat.le_of_ble_eq_true rfl) fresh fresh_nodup ?_
  refine SemW.go tyT_ok mixed ?_
  conv => arg 7; whnf
  refine Holds.mk (by first | (simp; done) | (simp; omega) | omega) ?_
  refine SemW.frzW (T' := [(4, .ptr (.l 1) 0), (5, abool false), (9, sF l), (10, .fn 130 [.vp true 1 (.agg [.val (.int .u64 n)]) 0])]) (L' := [(1, .obj [.val (.int .u64 0), nilS])]) 0 rfl rfl ⟨AvLe.refl _, trivial, AvLe.refl _, trivial, AvLe.refl _, trivial, AvLe.refl _, ⟨trivial, trivial⟩, trivial⟩ ⟨rfl, ⟨rfl, trivial, trivial, trivial⟩, trivial⟩ ?_
  refine SemW.call0 rfl rfl func129 rfl rfl ?_
  refine last_spec l _ _ _ _ _ _ hl rfl func130 rfl rfl (fun p _ h Q hQ => frag1_spec p n h Q hQ) ⟨rfl, rfl, _, rfl, rfl, rfl, ?_⟩
  refine SemW.go tyT_ok mixed ?_
  conv => arg 7; whnf
  refine Holds.mk (by first | (simp; done) | (simp; omega) | omega) ?_
  refine SemW.call0 rfl rfl func96 rfl rfl ?_
  refine clone_spec _ _ _ ?_ ⟨rfl, rfl, _, rfl, rfl, rfl, ?_⟩
  · exact lastF_mem (p := fun f => f.books.length < 2^40) hb (by simp)
  · refine SemW.go tyT_ok mixed ?_
    conv => arg 7; whnf
    refine Holds.mk (by first | (simp; done) | (simp; omega) | omega) ?_
    refine SemW.ret0 tyT_ok func94 rfl rfl rfl ?_
    exact hQ
end Go.Proofs.Try
set_option linter.unusedVariables false
set_option linter.unusedSimpArgs false
open Go Go.AM
namespace Go.Proofs.Try
set_option maxRecDepth 100000
set_option maxHeartbeats 4000000
def fromL (l : List Pl) (k w : Nat) : List Pl := (List.range w).map fun i => l.getD ((k + i) % l.length) ⟨0, 0⟩
theorem fromL_length (l : List Pl) (k w : Nat) : (fromL l k w).length = w := by simp [fromL]
theorem fromL_getD (l : List Pl) (k w i : Nat) (hi : i < w) : (fromL l k w).getD i ⟨0, 0⟩ = l.getD ((k + i) % l.length) ⟨0, 0⟩ := by simp [fromL, hi]
theorem from_spec (l : List Pl) (k w : Nat) (h : Hp) (Q : AV → Hp → List Blk → Prop) (hk : k < 2^61) (hw : w < 2^40) (hl : l.length < 2^62) (hne : w = 0 ∨ 0 < l.length) (hQ : Q (sP (fromL l k w)) h []) : SemC Try.prog 95 [sP l, aint k, aint w] h Q := by
  refine SemC.enter func95 rfl (Nat.le_of_ble_eq_true rfl) fresh fresh_nodup ?_
  refine SemW.go tyT_ok mixed ?_
  conv => arg 7; whnf
  refine Holds.mk (by first | (simp; done) | (simp; omega) | omega) ?_
  refine SemW.nilRow (t := 7) true 2 (fun _ => .bot) rfl ?_
  refine SemW.loop (X := {x : Nat × Nat // x.1 ≤ w}) (fun x => [(0, sP l), (1, aint k), (7, .sl (.l 0) x.1.2 2 0 x.1.1 x.1.1), (9, aint w), (10, aint x.1.1)]) (fun x => [(0, .arr true x.1.2 2 x.1.1 (fun i => encP ((fromL l k w).getD i ⟨0, 0⟩)))]) (fun _ => fresh1) (fun x => w - x.1.1) ⟨(0, 0), by simp⟩ (SemW.cutW ⟨AvLe.refl _, AvLe.refl _, AvLe.refl _, AvLe.refl _, AvLe.refl _, trivial⟩ ⟨⟨_, rfl, BlkLe.arr (Nat.le_refl _) (fun i hi => absurd hi (Nat.not_lt_zero _))⟩, trivial⟩ fresh1_nodup rfl rfl) (fun ⟨⟨i, g⟩, hi⟩ IH => ?_)
  dsimp only at hi IH ⊢
  refine SemW.go tyT_ok mixed ?_
  conv => arg 7; whnf
  refine Holds.mk (by first | (simp; done) | (simp; omega) | omega) ?_
  refine SemW.cond rfl (fun c1 => ?_) (fun c1 => ?_)
  · have hiw : i < w := by simpa using c1
    have hlen : 0 < l.length := by omega
    have hmod : ((IntKind.i64.wrap ((k : Int) + i)).tmod (l.length : Int)) = (((k + i) % l.length : Nat) : Int) := by
      rw [wrap_i64 (by omega) (by omega)]
      rfl
    have hmlt : (k + i) % l.length < l.length := Nat.mod_lt _ hlen
    have hv := fromL_getD l k w i hiw
    generalize (k + i) % l.length = m at hmod hmlt hv
    refine SemW.go tyT_ok mixed ?_
    conv => arg 7; whnf
    refine Holds.mk ?_ ?_
    · simp only [hmod]
      simp
      exact ⟨by omega, hmlt, fun e => by rw [e] at hlen; simp at hlen⟩
    · refine SemW.cutW ?_ ?_ fresh1_nodup rfl rfl (IH ⟨(i + 1, g + 1), hiw⟩ (by show w - (i + 1) < w - i; omega))
      · exact ⟨AvLe.refl _, AvLe.refl _, AvLe.sl rfl (Nat.le_refl _) (Nat.le_max_right _ _), AvLe.refl _, AvLe.of (incI (by omega)), trivial⟩
      · refine ⟨⟨_, rfl, BlkLe.arr (Nat.le_refl _) fun j hj => app1 (f := fun j => encP ((fromL l k w).getD j ⟨0, 0⟩)) (f' := fun j => encP ((fromL l k w).getD j ⟨0, 0⟩)) (fun _ _ => rfl) ?_ j hj⟩, trivial⟩
        simp only [hmod, hv]
        rfl
  · have hiw : i = w := by simp at c1; omega
    refine SemW.go tyT_ok mixed ?_
    conv => arg 7; whnf
    refine Holds.mk (by first | (simp; done) | (simp; omega) | omega) ?_
    refine SemW.frzW (T' := [(6, sP (fromL l k w))]) (L' := []) 0 rfl rfl ⟨AvLe.sP (by rw [fromL_length, hiw]) (fun j _ => by rw [Nat.zero_add]), ⟨by simp [Blk.num], rfl⟩, trivial⟩ trivial ?_
    refine SemW.ret0 tyT_ok func95 rfl rfl rfl ?_
    exact hQ
/-- the write set -/
def setL (l : List Fr) (w : Int) (n : Int) : List Pl :=
  let f := lastF l fun f => decide (f.first ≤ n)
  if (l.any fun f => decide (f.first ≤ n)) = true ∧ 1 ≤ w ∧ w ≤ f.books.length then fromL f.books ((n - f.first).toNat % f.books.length) w.toNat else []
theorem lastF_sat {l : List Fr} {is : Fr → Bool} (h : l.any is = true) : is (lastF l is) = true := by
  unfold lastF
  cases hb : (l.filter is).getLast? with
  | none =>
    have := List.getLast?_eq_none_iff.1 hb
    rw [List.filter_eq_nil_iff] at this
    rw [List.any_eq_true] at h
    obtain ⟨x, h1, h2⟩ := h
    exact absurd h2 (this x h1)
  | some f => exact (List.mem_filter.1 (List.mem_of_getLast? hb)).2
theorem set_spec (l : List Fr) (w n : Int) (h : Hp) (Q : AV → Hp → List Blk → Prop) (hl : l.length < 2^62) (hb : ∀ f ∈ l, f.books.length < 2^40 ∧ 0 ≤ f.first) (hn : n ≤ 18446744073709551615) (hQ : Q (sP (setL l w n)) h []) : SemC Try.prog 48 [sF l, aint w, .val (.int .u64 n)] h Q := by
  refine SemC.enter func48 rfl (Nat.le_of_ble_eq_true rfl) fresh fresh_nodup ?_
  refine SemW.go tyT_ok mixed ?_
  conv => arg 7; whnf
  refine Holds.mk (by first | (simp; done) | (simp; omega) | omega) ?_
  refine SemW.call0 rfl rfl func94 rfl rfl ?_
  refine sfrag_spec l n _ _ hl (fun f hf => (hb f hf).1) ⟨rfl, rfl, _, rfl, rfl, rfl, ?_⟩
  unfold setL at hQ
  have hb0 : (lastF l fun f => decide (f.first ≤ n)).books.length < 2^40 ∧ 0 ≤ (lastF l fun f => decide (f.first ≤ n)).first := lastF_mem (p := fun f => f.books.length < 2^40 ∧ 0 ≤ f.first) hb (by simp)
  have hsat := lastF_sat (l := l) (is := fun f => decide (f.first ≤ n))
  generalize (lastF l fun f => decide (f.first ≤ n)) = f at *
  generalize (l.any fun f => decide (f.first ≤ n)) = ok at *
  obtain ⟨fi, bk⟩ := f
  dsimp only at *
  refine SemW.go tyT_ok mixed ?_
  conv => arg 7; whnf
  refine Holds.mk (by first | (simp; done) | (simp; omega) | omega) ?_
  refine SemW.split (fun s1 => ?_) (fun s1 => ?_)
  · have e0 : ok = false := by simpa using s1
    subst e0
    rw [if_neg (by simp)] at hQ
    refine SemW.go tyT_ok mixed ?_
    conv => arg 7; whnf
    refine Holds.mk (by first | (simp; done) | (simp; omega) | omega) ?_
    refine SemW.go tyT_ok mixed ?_
    conv => arg 7; whnf
    refine Holds.mk (by first | (simp; done) | (simp; omega) | omega) ?_
    refine SemW.condT rfl ?_
    refine SemW.go tyT_ok mixed ?_
    conv => arg 7; whnf
    refine Holds.mk (by first | (simp; done) | (simp; omega) | omega) ?_
    refine SemW.weak (T' := [(6, sP [])]) (L' := []) ⟨AvLe.nil _ _ _ _, trivial⟩ trivial ?_
    refine SemW.ret0 tyT_ok func48 rfl rfl rfl ?_
    exact hQ
  · have e0 : ok = true := by simpa using s1
    subst e0
    refine SemW.go tyT_ok mixed ?_
    conv => arg 7; whnf
    refine Holds.mk (by first | (simp; done) | (simp; omega) | omega) ?_
    refine SemW.split (fun s2 => ?_) (fun s2 => ?_)
    · have hw : w < 1 := by simpa using s2
      rw [if_neg (by omega)] at hQ
      refine SemW.go tyT_ok mixed ?_
      conv => arg 7; whnf
      refine Holds.mk (by first | (simp; done) | (simp; omega) | omega) ?_
      refine SemW.condT rfl ?_
      refine SemW.go tyT_ok mixed ?_
      conv => arg 7; whnf
      refine Holds.mk (by first | (simp; done) | (simp; omega) | omega) ?_
      refine SemW.weak (T' := [(6, sP [])]) (L' := []) ⟨AvLe.nil _ _ _ _, trivial⟩ trivial ?_
      refine SemW.ret0 tyT_ok func48 rfl rfl rfl ?_
      exact hQ
    · have hw : ¬ w < 1 := by simpa using s2
      refine SemW.go tyT_ok mixed ?_
      conv => arg 7; whnf
      refine Holds.mk (by first | (simp; done) | (simp; omega) | omega) ?_
      refine SemW.cond rfl (fun c3 => ?_) (fun c3 => ?_)
      · have hw2 : (bk.length : Int) < w := by simpa using c3
        rw [if_neg (by omega)] at hQ
        refine SemW.go tyT_ok mixed ?_
        conv => arg 7; whnf
        refine Holds.mk (by first | (simp; done) | (simp; omega) | omega) ?_
        refine SemW.weak (T' := [(6, sP [])]) (L' := []) ⟨AvLe.nil _ _ _ _, trivial⟩ trivial ?_
        refine SemW.ret0 tyT_ok func48 rfl rfl rfl ?_
        exact hQ
      · have hw2 : ¬ (bk.length : Int) < w := by simpa using c3
        rw [if_pos (by refine ⟨rfl, ?_, ?_⟩ <;> omega)] at hQ
        have hfn : fi ≤ n := by simpa using hsat rfl
        obtain ⟨wn, rfl⟩ : ∃ wn : Nat, w = wn := ⟨w.toNat, by omega⟩
        obtain ⟨m, hm⟩ : ∃ m : Nat, n - fi = m := ⟨(n - fi).toNat, by omega⟩
        refine SemW.go tyT_ok mixed ?_
        conv => arg 7; whnf
        refine Holds.mk (by first | (simp; done) | (simp; omega) | omega) ?_
        refine SemW.draw mixed rfl rfl ?_
        have hlen : 0 < bk.length := by omega
        have e1 : IntKind.u64.wrap ((bk.length : Int)) = bk.length := wrap_u64 (by omega) (by omega)
        have e2 : IntKind.u64.wrap (n - fi) = m := by rw [hm]; exact wrap_u64 (by omega) (by omega)
        have hmod : m % bk.length < bk.length := Nat.mod_lt _ hlen
        have e3 : ((m : Int).tmod (bk.length : Int)) = ((m % bk.length : Nat) : Int) := rfl
        have e4 : AV.val (.int .i64 (IntKind.i64.wrap ((IntKind.u64.wrap (n - fi)).tmod (IntKind.u64.wrap (bk.length : Int))))) = aint ((m % bk.length : Nat) : Int) := by
          rw [e1, e2, e3, wrap_i64 (by omega) (by omega)]
        rw [hm] at hQ
        refine SemDr.go tyT_ok ?_
        conv => arg 10; whnf
        refine HoldsD.mk ((by rw [e1]; simp; intro e; rw [e] at hlen; simp at hlen)) ?_
        refine SemDr.call0 rfl func95 rfl rfl ?_
        refine SemC.weakArgs (args' := [sP bk, aint ((m % bk.length : Nat) : Int), aint wn]) ⟨AvLe.refl _, AvLe.of e4, AvLe.refl _, trivial⟩ ?_
        refine from_spec bk (m % bk.length) wn _ _ (by omega) (by omega) (by omega) (.inr hlen) ⟨rfl, rfl, _, rfl, rfl, rfl, ?_⟩
        refine SemDr.go tyT_ok ?_
        conv => arg 10; whnf
        refine HoldsD.mk (by simp) ?_
        refine SemDr.end rfl ?_
        refine SemW.go tyT_ok mixed ?_
        conv => arg 7; whnf
        refine Holds.mk (by first | (simp; done) | (simp; omega) | omega) ?_
        refine SemW.ret0 tyT_ok func48 rfl rfl rfl ?_
        exact hQ
end Go.Proofs.Try
set_option linter.unusedVariables false
set_option linter.unusedSimpArgs false
open Go Go.AM
namespace Go.Proofs.Try
set_option maxRecDepth 100000
set_option maxHeartbeats 4000000
theorem longFrags_spec (l : List Fr) (h : Hp) (Q : AV → Hp → List Blk → Prop) (hl : l.length < 2^62) (hQ : Q (abool (longF l)) h []) : SemC Try.prog 38 [sF l] h Q := by
  refine SemC.enter func38 rfl (Nat.le_of_ble_eq_true rfl) fresh fresh_nodup ?_
  unfold longF at hQ
  refine SemW.go tyT_ok mixed ?_
  conv => arg 7; whnf
  refine Holds.mk (by first | (simp; done) | (simp; omega) | omega) ?_
  refine SemW.cond rfl (fun c0 => ?_) (fun c0 => ?_)
  · refine SemW.go tyT_ok mixed ?_
    conv => arg 7; whnf
    refine Holds.mk (by first | (simp; done) | (simp; omega) | omega) ?_
    refine SemW.ret0 tyT_ok func38 rfl rfl rfl ?_
    have c0' : decide ((l.length : Int) > 30) = true := c0
    rw [c0', Bool.true_or] at hQ
    exact hQ
  · have c0' : decide ((l.length : Int) > 30) = false := c0
    rw [c0', Bool.false_or] at hQ
    refine SemW.go tyT_ok mixed ?_
    conv => arg 7; whnf
    refine Holds.mk (by first | (simp; done) | (simp; omega) | omega) ?_
    refine SemW.loop (X := {i : Nat // i ≤ l.length ∧ ((List.range i).any fun i => decide (((l.getD i F0).books.length : Int) > 30)) = false}) (fun i => [(0, sF l), (3, aint i.1)]) (fun _ => []) (fun _ => fresh) (fun i => l.length - i.1) ⟨0, Nat.zero_le _, rfl⟩ (SemW.cut ⟨rfl, rfl, trivial⟩ trivial fresh_nodup rfl rfl) (fun ⟨i, hi, ha⟩ IH => ?_)
    dsimp only at hi ha IH ⊢
    refine SemW.go tyT_ok mixed ?_
    conv => arg 7; whnf
    refine Holds.mk (by first | (simp; done) | (simp; omega) | omega) ?_
    refine SemW.cond rfl (fun c1 => ?_) (fun c1 => ?_)
    · have hil : i < l.length := by simpa using c1
      refine SemW.go tyT_ok mixed ?_
      conv => arg 7; whnf
      refine Holds.mk ((by simp; omega)) ?_
      refine SemW.cond rfl (fun c2 => ?_) (fun c2 => ?_)
      · refine SemW.go tyT_ok mixed ?_
        conv => arg 7; whnf
        refine Holds.mk (by first | (simp; done) | (simp; omega) | omega) ?_
        refine SemW.ret0 tyT_ok func38 rfl rfl rfl ?_
        rw [any_true hil c2] at hQ
        exact hQ
      · refine SemW.go tyT_ok mixed ?_
        conv => arg 7; whnf
        refine Holds.mk (by first | (simp; done) | (simp; omega) | omega) ?_
        have IH' := IH ⟨i + 1, hil, any_succ ha c2⟩ (by show l.length - (i + 1) < l.length - i; omega)
        refine SemW.cut ?_ ?_ fresh_nodup rfl rfl IH'
        · exact ⟨rfl, incI (by omega), trivial⟩
        · trivial
    · obtain rfl : i = l.length := by simp at c1; omega
      refine SemW.go tyT_ok mixed ?_
      conv => arg 7; whnf
      refine Holds.mk (by first | (simp; done) | (simp; omega) | omega) ?_
      refine SemW.ret0 tyT_ok func38 rfl rfl rfl ?_
      rw [ha] at hQ
      exact hQ
end Go.Proofs.Try
set_option linter.unusedVariables false
set_option linter.unusedSimpArgs false
open Go Go.AM
namespace Go.Proofs.Try
set_option maxRecDepth 100000
set_option maxHeartbeats 4000000
theorem same_spec (a b : List Pl) (h : Hp) (Q : AV → Hp → List Blk → Prop) (hl : a.length < 2^62) (hQ : Q (abool (decide (a = b))) h []) : SemC Try.prog 14 [sP a, sP b] h Q := by
  refine SemC.enter func14 rfl (Nat.le_of_ble_eq_true rfl) fresh fresh_nodup ?_
  refine SemW.go tyT_ok mixed ?_
  conv => arg 7; whnf
  refine Holds.mk (by first | (simp; done) | (simp; omega) | omega) ?_
  refine SemW.cond rfl (fun c1 => ?_) (fun c1 => ?_)
  · refine SemW.go tyT_ok mixed ?_
    conv => arg 7; whnf
    refine Holds.mk (by first | (simp; done) | (simp; omega) | omega) ?_
    refine SemW.ret0 tyT_ok func14 rfl rfl rfl ?_
    have : decide (a = b) = false := by simp at c1 ⊢; intro e; exact c1 (by rw [e])
    rw [this] at hQ
    exact hQ
  · have hlen : a.length = b.length := by simp at c1; omega
    refine SemW.go tyT_ok mixed ?_
    conv => arg 7; whnf
    refine Holds.mk (by first | (simp; done) | (simp; omega) | omega) ?_
    refine SemW.loop (X := {i : Nat // i ≤ a.length ∧ a.take i = b.take i}) (fun i => [(0, sP a), (1, sP b), (5, aint i.1)]) (fun _ => []) (fun _ => fresh) (fun i => a.length - i.1) ⟨0, by simp⟩ (SemW.cut ⟨rfl, rfl, rfl, trivial⟩ trivial fresh_nodup rfl rfl) (fun ⟨i, hi, hab⟩ IH => ?_)
    dsimp only
    refine SemW.go tyT_ok mixed ?_
    conv => arg 7; whnf
    refine Holds.mk (by first | (simp; done) | (simp; omega) | omega) ?_
    refine SemW.cond rfl (fun c2 => ?_) (fun c2 => ?_)
    · have hil : i < a.length := by simpa using c2
      have hib : i < b.length := by omega
      refine SemW.go tyT_ok mixed ?_
      conv => arg 7; whnf
      refine Holds.mk ((by simp; omega)) ?_
      refine SemW.cond rfl (fun c3 => ?_) (fun c3 => ?_)
      · refine SemW.go tyT_ok mixed ?_
        conv => arg 7; whnf
        refine Holds.mk (by first | (simp; done) | (simp; omega) | omega) ?_
        refine SemW.ret0 tyT_ok func14 rfl rfl rfl ?_
        have : decide (a = b) = false := by
          simp only [decide_eq_false_iff_not]
          intro e
          subst e
          simp at c3
        rw [this] at hQ
        exact hQ
      · refine SemW.go tyT_ok mixed ?_
        conv => arg 7; whnf
        refine Holds.mk (by first | (simp; done) | (simp; omega) | omega) ?_
        have IH' := IH ⟨i + 1, by omega, ?_⟩ (by show a.length - (i + 1) < a.length - i; omega)
        · dsimp only at IH'
          refine SemW.cut ?_ ?_ fresh_nodup rfl rfl IH'
          · exact ⟨rfl, rfl, incI (by omega), trivial⟩
          · trivial
        · rw [List.take_add_one, List.take_add_one, hab]
          congr 1
          have e1 : a[i] = b[i] := by
            have h1 : (a[i] == b[i]) = true := by
              rw [← eqP]
              simp [hil, hib] at c3
              simp [c3]
            simpa using h1
          simp [hil, hib, e1]
    · have h1 : i = a.length := by simp at c2; omega
      refine SemW.go tyT_ok mixed ?_
      conv => arg 7; whnf
      refine Holds.mk (by first | (simp; done) | (simp; omega) | omega) ?_
      refine SemW.ret0 tyT_ok func14 rfl rfl rfl ?_
      have : decide (a = b) = true := by
        subst h1
        rw [List.take_length, hlen, List.take_length] at hab
        simp [hab]
      rw [this] at hQ
      exact hQ
end Go.Proofs.Try
set_option linter.unusedVariables false
set_option linter.unusedSimpArgs false
namespace Go.AM
variable {P : Program}
def opdR : List Operand → List Nat → List Nat
  | [], a => a
  | .tmp t :: l, a => opdR l (bif memN a t then a else t :: a)
  | _ :: l, a => opdR l a
def operR (ops : List Oper) (a : List Nat) : List Nat := match ops with
  | [] => a
  | o :: ops => operR ops (opdR o.op.operands.toList a)
def codeR : Code → List Nat → List Nat
  | .region _ ops _, a => operR ops.toList a
  | .seq x y, a => codeR y (codeR x a)
  | .cond c x y, a => codeR y (codeR x (opdR [c] a))
  | .block _ x, a => codeR x a
  | .loop x, a => codeR x a
  | .scope x, a => codeR x a
  | .rangeFunc f _ x y, a => codeR y (codeR x (opdR [f] a))
  | _, a => a
def itemsR (ks : List Item) (a : List Nat) : List Nat := match ks with
  | [] => a
  | .code c :: ks => itemsR ks (codeR c a)
  | .inLoop c :: ks => itemsR ks (codeR c a)
  | .inRegion ops _ :: ks => itemsR ks (operR ops.toList a)
  | _ :: ks => itemsR ks a
def resR (rs : List ResultVar) (a : List Nat) : List Nat := match rs with
  | [] => a
  | .tmp t :: rs => resR rs (bif memN a t then a else t :: a)
  | .cell t _ :: rs => resR rs (bif memN a t then a else t :: a)
def readsR (fn : Func) (ks : List Item) : List Nat := resR fn.results.toList (itemsR ks [])
/-- those of T that are in l, each once -/
def keepT (l : List Nat) (T : Tm) (seen : List Nat) : List Nat := match T with
  | [] => []
  | (t, _) :: T => bif memN seen t then keepT l T seen else bif memN l t then t :: keepT l T (t :: seen) else keepT l T (t :: seen)
def keysB (L : Lh) (seen : List Nat) : List Nat := match L with
  | [] => []
  | (t, _) :: L => bif memN seen t then keysB L seen else t :: keysB L (t :: seen)
def keysT (T : Tm) : List Nat := match T with
  | [] => []
  | (t, _) :: T => t :: keysT T
def minusN (l m : List Nat) : List Nat := match l with
  | [] => []
  | a :: l => bif memN m a then minusN l m else a :: minusN l m
def selTs (T : Tm) : List Nat → Tm
  | [] => []
  | t :: ts => (t, get T t) :: selTs T ts
def selBs (L : Lh) : List Nat → Lh
  | [] => []
  | k :: ks => match getB L k with
    | some b => (k, b) :: selBs L ks
    | none => selBs L ks
theorem get_selTs (T : Tm) : ∀ (l : List Nat) (t : Nat), get (selTs T l) t = .bot ∨ get (selTs T l) t = get T t
  | [], t => .inl rfl
  | u :: l, t => by
    simp only [selTs, get]
    cases hb : Nat.beq u t with
    | true => rw [Nat.eq_of_beq_eq_true hb]; exact .inr rfl
    | false => exact get_selTs T l t
theorem get_app (A B : Tm) (t : Nat) : get (A ++ B) t = if memN (keysT A) t then get A t else get B t := by
  induction A with
  | nil => rfl
  | cons p A ih =>
    obtain ⟨u, v⟩ := p
    simp only [List.cons_append, get, keysT, memN]
    cases hb : Nat.beq u t with
    | true => rfl
    | false => simpa using ih
theorem leTw_app {A B T : Tm} (h : leTw A T) (k : leTw B T) : leTw (A ++ B) T := by
  induction A with
  | nil => exact k
  | cons p A ih =>
    obtain ⟨t, v⟩ := p
    exact ⟨h.1, ih h.2⟩
theorem leTw_sel (T : Tm) : ∀ l, leTw (selTs T l) T
  | [] => trivial
  | _ :: l => ⟨AvLe.refl _, leTw_sel T l⟩
theorem leBw_app {A B L : Lh} (h : leBw A L) (k : leBw B L) : leBw (A ++ B) L := by
  induction A with
  | nil => exact k
  | cons p A ih =>
    obtain ⟨t, v⟩ := p
    exact ⟨h.1, ih h.2⟩
theorem leBw_sel (L : Lh) : ∀ l, leBw (selBs L l) L
  | [] => trivial
  | k :: l => by
    simp only [selBs]
    split
    · rename_i b hb
      exact ⟨⟨b, hb, BlkLe.refl b⟩, leBw_sel L l⟩
    · exact leBw_sel L l
/-- entries as they stand -/
def selTK {α : Type} (T : Tm) (l : List Nat) (k : Tm → α) : α := match l with
  | [] => k []
  | t :: l => getK T t fun v => selTK T l fun T' => k ((t, v) :: T')
theorem selTK_eq {α : Type} (T : Tm) : ∀ (l : List Nat) (k : Tm → α), selTK T l k = k (selTs T l)
  | [], _ => rfl
  | t :: l, k => by simp only [selTK, selTs, getK_eq]; exact selTK_eq T l _
def selBK {α : Type} (L : Lh) (l : List Nat) (k : Lh → α) : α := match l with
  | [] => k []
  | t :: l => getBK L t (selBK L l k) fun b => selBK L l fun L' => k ((t, b) :: L')
theorem selBK_eq {α : Type} (L : Lh) : ∀ (l : List Nat) (k : Lh → α), selBK L l k = k (selBs L l)
  | [], _ => rfl
  | t :: l, k => by
    simp only [selBK, selBs, getBK_eq]
    cases hb : getB L t with
    | none => exact selBK_eq L l k
    | some b => exact selBK_eq L l _
section
variable {fid : FuncId} {fn : Func} {Kt : Trk} {Q : AV → Hp → List Blk → Prop} {h : Hp}
def headK : List Item → Nat
  | .inRegion _ todo :: _ => todo.length + 20
  | .code c :: _ => match c with
    | .skip => 1
    | .region _ _ _ => 2
    | .seq _ _ => 3
    | .cond _ _ _ => 4
    | .block _ _ => 5
    | .loop _ => 6
    | .exit _ => 7
    | .ret => 8
    | _ => 9
  | _ => 0
def sameK (ks ks' : List Item) : Bool := Nat.beq ks.length ks'.length && Nat.beq (headK ks) (headK ks')
def HoldsP (P : Program) (fid : FuncId) (fn : Func) (Kt : Trk) (Q : AV → Hp → List Blk → Prop) (h : Hp) (_ks0 : List Item) (c : Cfg) : Prop := Holds P fid fn Kt Q h c
theorem HoldsP.mk {ks0 ks : List Item} {T : Tm} {L : Lh} {fr : List Nat} {C : Prop} (_hn : sameK ks0 ks = false) (hC : C) (hh : SemW P fid fn Kt Q h ks T L fr) : HoldsP P fid fn Kt Q h ks0 ⟨ks, T, L, fr, C⟩ := ⟨hC, hh⟩
theorem SemW.goP {ty : TypeId → TI} (hty : TyOk P ty) (hm : P.follows .mixedOrders = true) {ks : List Item} {T : Tm} {L : Lh} {fr : List Nat} (hr : HoldsP P fid fn Kt Q h ks (startA ty fn.ntmps ks T L fr)) : SemW P fid fn Kt Q h ks T L fr := SemW.go hty hm hr
/-- a guard that others wait for -/
def stopG (ks : List Item) (T : Tm) : Bool := match ks with
  | .inRegion ops _ :: _ => match T with
    | (d, _) :: _ => (List.range ops.size).any fun i => match ops[i]? with
      | some o => match o.dst with
        | some t => Nat.beq t d && isGuard ops.toList i
        | none => false
      | none => false
    | [] => false
  | _ => false
theorem SemW.splitG {ks : List Item} {d : Nat} {T : Tm} {L : Lh} {fr : List Nat} {x : Bool} (_hg : stopG ks ((d, .val (.bool x)) :: T) = true) (h1 : x = true → SemW P fid fn Kt Q h ks ((d, abool true) :: T) L fr) (h2 : x = false → SemW P fid fn Kt Q h ks ((d, abool false) :: T) L fr) :
    SemW P fid fn Kt Q h ks ((d, .val (.bool x)) :: T) L fr := SemW.split h1 h2
def HoldsDP (P : Program) (fid : FuncId) (fn : Func) (Kt : Trk) (Q : AV → Hp → List Blk → Prop) (ops : Array Oper) (k : List Item) (T0 : Tm) (h : Hp) (_K0 _D0 : List Nat) (c : DC) : Prop := HoldsD P fid fn Kt Q ops k T0 h c
theorem HoldsDP.mk {ops : Array Oper} {k : List Item} {W : Wm} {K D K0 D0 : List Nat} {T0 : Tm} {L : Lh} {fr : List Nat} {C : Prop} (_hn : (Nat.beq K0.length K.length && Nat.beq D0.length D.length) = false) (hC : C) (hh : SemDr P fid fn Kt Q ops k W K D T0 h L fr) : HoldsDP P fid fn Kt Q ops k T0 h K0 D0 ⟨W, K, D, L, fr, C⟩ := ⟨hC, hh⟩
theorem SemDr.goP {ty : TypeId → TI} (hty : TyOk P ty) {ops : Array Oper} {k : List Item} {W : Wm} {K D : List Nat} {T0 : Tm} {L : Lh} {fr : List Nat} (hr : HoldsDP P fid fn Kt Q ops k T0 h K D (runD ty ops T0 20 W K D L fr True)) : SemDr P fid fn Kt Q ops k W K D T0 h L fr := SemDr.go hty hr
def stopD (ops : Array Oper) (W : Wm) : Bool := match W with
  | (i, _) :: _ => isGuard ops.toList i
  | [] => false
theorem SemDr.splitG {ops : Array Oper} {k : List Item} {W : Wm} {K D : List Nat} {T0 : Tm} {L : Lh} {fr : List Nat} {i : Nat} {x : Bool} (_hg : stopD ops ((i, .val (.bool x)) :: W) = true) (h1 : x = true → SemDr P fid fn Kt Q ops k ((i, abool true) :: W) K D T0 h L fr) (h2 : x = false → SemDr P fid fn Kt Q ops k ((i, abool false) :: W) K D T0 h L fr) :
    SemDr P fid fn Kt Q ops k ((i, .val (.bool x)) :: W) K D T0 h L fr := SemDr.split h1 h2
def gcA (fn : Func) (ks : List Item) (T : Tm) (L : Lh) (fr : List Nat) : Cfg :=
  forceN (keepT (readsR fn ks) T []) fun l => selTK T l fun T' => ⟨ks, T', L, fr, True⟩
theorem SemW.gc {ks : List Item} {T : Tm} {L : Lh} {fr : List Nat} (hr : Holds P fid fn Kt Q h (gcA fn ks T L fr)) : SemW P fid fn Kt Q h ks T L fr := by
  unfold gcA at hr
  rw [forceN_eq, selTK_eq] at hr
  exact SemW.eqT (fun t => get_selTs T _ t) hr.2
/-- a loop's rounds: KT, KL stay as they were ahead of it -/
def LoopG (P : Program) (fid : FuncId) (fn : Func) (Kt : Trk) (Q : AV → Hp → List Blk → Prop) (h : Hp) {X : Type} (c : Code) (k : List Item) (V : X → Tm) (B : X → Lh) (m : X → Nat) (KT : Tm) (KL : Lh) (F : List Nat) : Prop :=
  ∀ x, (∀ y, m y < m x → SemW P fid fn Kt Q h (.inLoop c :: k) (V y ++ KT) (B y ++ KL) F) → SemW P fid fn Kt Q h (.code c :: .inLoop c :: k) (V x ++ KT) (B x ++ KL) F
structure LC where
  KT : Tm
  KL : Lh
  F : List Nat
def loopA (fn : Func) (c : Code) (k : List Item) (T0 : Tm) (L0 : Lh) (V0 : Tm) (B0 : Lh) : LC :=
  forceN (minusN (keepT (readsR fn (.inLoop c :: k)) T0 []) (keysT V0)) fun kT => forceN (keysB B0 []) fun kB => forceN (minusN (keysB L0 []) kB) fun kL => forceN (minusN (minusN [0, 1, 2, 3, 4, 5, 6, 7, 8, 9, 10, 11, 12, 13, 14, 15, 16, 17, 18, 19, 20, 21, 22, 23, 24, 25, 26, 27, 28, 29] kB) kL) fun F => selTK T0 kT fun KT => selBK L0 kL fun KL => ⟨KT, KL, F⟩
theorem loopA_eq (fn : Func) (c : Code) (k : List Item) (T0 : Tm) (L0 : Lh) (V0 : Tm) (B0 : Lh) : ∃ lt lb F, loopA fn c k T0 L0 V0 B0 = ⟨selTs T0 lt, selBs L0 lb, F⟩ := by
  unfold loopA
  rw [forceN_eq, forceN_eq, forceN_eq, forceN_eq, selTK_eq, selBK_eq]
  exact ⟨_, _, _, rfl⟩
def LoopC (P : Program) (fid : FuncId) (fn : Func) (Kt : Trk) (Q : AV → Hp → List Blk → Prop) (h : Hp) {X : Type} (c : Code) (k : List Item) (V : X → Tm) (B : X → Lh) (m : X → Nat) (x0 : X) (T0 : Tm) (L0 : Lh) (l : LC) : Prop :=
  leTw (V x0) T0 ∧ leBw (B x0) L0 ∧ l.F.Nodup ∧ avoidT (memN l.F) (V x0 ++ l.KT) = true ∧ avoidB (memN l.F) (B x0 ++ l.KL) = true ∧ trkAv Kt l.F = true ∧ LoopG P fid fn Kt Q h c k V B m l.KT l.KL l.F
theorem LoopC.mk {X : Type} {c : Code} {k : List Item} {V : X → Tm} {B : X → Lh} {m : X → Nat} {x0 : X} {T0 : Tm} {L0 : Lh} {KT : Tm} {KL : Lh} {F : List Nat} (sT : leTw (V x0) T0) (sL : leBw (B x0) L0) (hF : F.Nodup) (aT : avoidT (memN F) (V x0 ++ KT) = true) (aL : avoidB (memN F) (B x0 ++ KL) = true) (hK : trkAv Kt F = true)
    (hh : LoopG P fid fn Kt Q h c k V B m KT KL F) : LoopC P fid fn Kt Q h c k V B m x0 T0 L0 ⟨KT, KL, F⟩ := ⟨sT, sL, hF, aT, aL, hK, hh⟩
theorem SemW.loopG {X : Type} {c : Code} {k : List Item} {T0 : Tm} {L0 : Lh} {F0 : List Nat} (V : X → Tm) (B : X → Lh) (m : X → Nat) (x0 : X)
    (hr : LoopC P fid fn Kt Q h c k V B m x0 T0 L0 (loopA fn c k T0 L0 (V x0) (B x0))) : SemW P fid fn Kt Q h (.code (.loop c) :: k) T0 L0 F0 := by
  obtain ⟨lt, lb, F, e⟩ := loopA_eq fn c k T0 L0 (V x0) (B x0)
  rw [e] at hr
  obtain ⟨sT, sL, hF, aT, aL, hK, round⟩ := hr
  exact SemW.loop (fun x => V x ++ selTs T0 lt) (fun x => B x ++ selBs L0 lb) (fun _ => F) m x0
    (fun hh => SemW.cutWK (leTw_app sT (leTw_sel _ _)) (leBw_app sL (leBw_sel _ _)) hF aT aL hK hh) round
theorem leTw_eq {K T : Tm} (h : selTs T (keysT K) = K) : leTw K T := by rw [← h]; exact leTw_sel _ _
def keysL : Lh → List Nat
  | [] => []
  | (t, _) :: L => t :: keysL L
theorem leBw_eq {K L : Lh} (h : selBs L (keysL K) = K) : leBw K L := by rw [← h]; exact leBw_sel _ _
/-- back to the loop's head, or to any place that is told in that way -/
theorem SemW.back {ks : List Item} {F fr : List Nat} {T KT V : Tm} {L KL B : Lh} (hh : SemW P fid fn Kt Q h ks (V ++ KT) (B ++ KL) F) (hT : leTw V T) (hL : leBw B L) (ekT : selTs T (keysT KT) = KT) (ekL : selBs L (keysL KL) = KL) (hF : F.Nodup) (aT : avoidT (memN F) (V ++ KT) = true) (aL : avoidB (memN F) (B ++ KL) = true) (hK : trkAv Kt F = true) : SemW P fid fn Kt Q h ks T L fr :=
  SemW.cutWK (leTw_app hT (leTw_eq ekT)) (leBw_app hL (leBw_eq ekL)) hF aT aL hK hh
def frzTs (k : Nat) (b : Blk) : Tm → Tm
  | [] => []
  | (t, v) :: T => (t, v.frz k b) :: frzTs k b T
def frzTC (k n g : Nat) : Tm → Prop → Prop
  | [], C => C
  | (_, v) :: T, C => v.frzC k n g ∧ frzTC k n g T C
def frzBs (k : Nat) (b : Blk) : Lh → Lh
  | [] => []
  | (q, c) :: L => bif Nat.beq q k then frzBs k b L else match c with
    | .obj cs => (q, .obj (frzL k b cs)) :: frzBs k b L
    | .arr ag g c n f => (q, .arr ag g c n f) :: frzBs k b L
def frzBC (k n g : Nat) : Lh → Prop → Prop
  | [], C => C
  | (_, c) :: L, C => match c with
    | .obj cs => frzLC k n g cs ∧ frzBC k n g L C
    | .arr .. => frzBC k n g L C
mutual
theorem frz_free (k : Nat) (b : Blk) : ∀ a : AV, a.idFree = true → a.frz k b = a
  | .bot, _ => rfl
  | .val _, _ => rfl
  | .agg cs, h => by rw [AV.frz, frzL_free k b cs h]
  | .tup cs, h => by rw [AV.frz, frzL_free k b cs h]
  | .fn _ cs, h => by rw [AV.frz, frzL_free k b cs h]
  | .vp _ _ _ _, _ => rfl
  | .vs _ _ _ _, _ => rfl
  | .ptr _ _, h => by simp [AV.idFree] at h
  | .eptr _ _ _ _ _, h => by simp [AV.idFree] at h
  | .sl _ _ _ _ _ _, h => by simp [AV.idFree] at h
theorem frzL_free (k : Nat) (b : Blk) : ∀ l : List AV, idFreeL l = true → frzL k b l = l
  | [], _ => rfl
  | a :: l, h => by
    simp only [idFreeL, Bool.and_eq_true] at h
    rw [frzL, frz_free k b a h.1, frzL_free k b l h.2]
end
mutual
theorem frzC_free (k n g : Nat) : ∀ a : AV, a.idFree = true → a.frzC k n g
  | .bot, _ => trivial
  | .val _, _ => trivial
  | .agg cs, h => by rw [AV.frzC]; exact frzLC_free k n g cs h
  | .tup cs, h => by rw [AV.frzC]; exact frzLC_free k n g cs h
  | .fn _ cs, h => by rw [AV.frzC]; exact frzLC_free k n g cs h
  | .vp _ _ _ _, _ => trivial
  | .vs _ _ _ _, _ => trivial
  | .ptr _ _, h => by simp [AV.idFree] at h
  | .eptr _ _ _ _ _, h => by simp [AV.idFree] at h
  | .sl _ _ _ _ _ _, h => by simp [AV.idFree] at h
theorem frzLC_free (k n g : Nat) : ∀ l : List AV, idFreeL l = true → frzLC k n g l
  | [], _ => trivial
  | a :: l, h => by
    simp only [idFreeL, Bool.and_eq_true] at h
    exact ⟨frzC_free k n g a h.1, frzLC_free k n g l h.2⟩
end
def forceV {α : Type} (v : AV) (k : AV → α) : α := match v with
  | .bot => k .bot
  | .val v => k (.val v)
  | .agg cs => k (.agg cs)
  | .tup cs => k (.tup cs)
  | .fn f cs => k (.fn f cs)
  | .ptr id o => k (.ptr id o)
  | .eptr id g c i o => k (.eptr id g c i o)
  | .vp ag c x o => k (.vp ag c x o)
  | .sl id g c off len cp => k (.sl id g c off len cp)
  | .vs ag c n f => k (.vs ag c n f)
theorem forceV_eq {α : Type} (v : AV) (k : AV → α) : forceV v k = k v := by cases v <;> rfl
/-- what is left as it is where no name is in it -/
def frzVK {α : Type} (k : Nat) (b : Blk) (v : AV) (kk : AV → Prop → α) : α := match v.idFree with
  | true => kk v True
  | false => forceV (v.frz k b) fun v' => kk v' (v.frzC k b.num b.gen)
def frzTK {α : Type} (k : Nat) (b : Blk) (T : Tm) (C : Prop) (kk : Tm → Prop → α) : α := match T with
  | [] => kk [] C
  | (t, v) :: T => frzVK k b v fun v' c => frzTK k b T (c ∧ C) fun T' C' => kk ((t, v') :: T') C'
theorem frzVK_eq {α : Type} (k : Nat) (b : Blk) (v : AV) (kk : AV → Prop → α) : ∃ C, frzVK k b v kk = kk (v.frz k b) C ∧ (C → v.frzC k b.num b.gen) := by
  unfold frzVK
  cases hf : v.idFree with
  | true => exact ⟨True, by simp only [frz_free k b v hf], fun _ => frzC_free k _ _ v hf⟩
  | false => exact ⟨_, by simp only [forceV_eq], fun h => h⟩
theorem frzTK_eq {α : Type} (k : Nat) (b : Blk) : ∀ (T : Tm) (C : Prop) (kk : Tm → Prop → α), ∃ C', frzTK k b T C kk = kk (frzTs k b T) C' ∧ (C' → frzTC k b.num b.gen T C)
  | [], C, kk => ⟨C, rfl, fun h => h⟩
  | (t, v) :: T, C, kk => by
    obtain ⟨c, e, hc⟩ := frzVK_eq k b v (fun v' c => frzTK k b T (c ∧ C) fun T' C' => kk ((t, v') :: T') C')
    obtain ⟨C', e2, h2⟩ := frzTK_eq k b T (c ∧ C) (fun T' C' => kk ((t, v.frz k b) :: T') C')
    refine ⟨C', by simp only [frzTK]; rw [e, e2]; rfl, fun h => ?_⟩
    have key : ∀ {T : Tm} {A B : Prop}, (A → B) → frzTC k b.num b.gen T A → frzTC k b.num b.gen T B := by
      intro T
      induction T with
      | nil => intro A B f x; exact f x
      | cons p T ih => intro A B f x; exact ⟨x.1, ih f x.2⟩
    have and2 : ∀ {T : Tm} {A B : Prop}, frzTC k b.num b.gen T (A ∧ B) → A := by
      intro T
      induction T with
      | nil => intro A B x; exact x.1
      | cons p T ih => intro A B x; exact ih x.2
    exact ⟨hc (and2 (h2 h)), key (fun x => x.2) (h2 h)⟩
def frzA (fn : Func) (k : Nat) (ks : List Item) (T : Tm) (L : Lh) (fr : List Nat) : Cfg := getBK L k ⟨ks, T, L, fr, True⟩ fun b => match b.idFree with
  | false => ⟨ks, T, L, fr, True⟩
  | true => forceN (keepT (readsR fn ks) T []) fun l => forceN (minusN (keysB L []) [k]) fun lb => selTK T l fun T1 => selBK L lb fun L1 => frzTK k b T1 (frzBC k b.num b.gen L1 True) fun T' C => forceL (frzBs k b L1) fun L' => ⟨ks, T', L', fr, C⟩
theorem frzTs_ok {k : Nat} {b : Blk} {T0 : Tm} {C : Prop} : ∀ {l : List Nat}, frzTC k b.num b.gen (selTs T0 l) C → C ∧ frzT k b (frzTs k b (selTs T0 l)) T0
  | [], hc => ⟨hc, trivial⟩
  | t :: l, hc => by
    obtain ⟨h1, h2⟩ := hc
    obtain ⟨h3, h4⟩ := frzTs_ok h2
    exact ⟨h3, rfl, h1, h4⟩
theorem frzBs_ok {k : Nat} {b : Blk} {L0 : Lh} {C : Prop} : ∀ {l : List Nat}, k ∉ l → frzBC k b.num b.gen (selBs L0 l) C → C ∧ frzB k b (frzBs k b (selBs L0 l)) L0
  | [], _, hc => ⟨hc, trivial⟩
  | q :: l, hk, hc => by
    have hq : q ≠ k := fun e => hk (by rw [e]; exact List.mem_cons_self)
    have hl : k ∉ l := fun e => hk (List.mem_cons_of_mem _ e)
    simp only [selBs] at hc ⊢
    cases hb : getB L0 q with
    | none =>
      simp only [hb] at hc
      exact frzBs_ok hl hc
    | some c =>
      simp only [hb] at hc
      have hbeq : Nat.beq q k = false := by
        cases hx : Nat.beq q k with
        | false => rfl
        | true => exact absurd (Nat.eq_of_beq_eq_true hx) hq
      simp only [frzBs, hbeq, cond_false]
      cases c with
      | obj cs =>
        obtain ⟨h1, h2⟩ := hc
        obtain ⟨h3, h4⟩ := frzBs_ok hl h2
        refine ⟨h3, ?_⟩
        refine ⟨hbeq, ?_, h4⟩
        rw [hb]
        exact ⟨rfl, h1⟩
      | arr ag g c n f =>
        obtain ⟨h3, h4⟩ := frzBs_ok hl hc
        refine ⟨h3, ?_⟩
        refine ⟨hbeq, ?_, h4⟩
        rw [hb]
theorem mem_minusN {m : List Nat} : ∀ {l : List Nat} {a : Nat}, a ∈ minusN l m → a ∈ l ∧ a ∉ m
  | b :: l, a, ha => by
    simp only [minusN] at ha
    cases hb : memN m b with
    | true => rw [hb] at ha; have := mem_minusN ha; exact ⟨List.mem_cons_of_mem _ this.1, this.2⟩
    | false =>
      rw [hb] at ha
      rcases List.mem_cons.1 ha with e | e
      · subst e; exact ⟨List.mem_cons_self, not_memN hb⟩
      · have := mem_minusN e; exact ⟨List.mem_cons_of_mem _ this.1, this.2⟩
theorem SemW.frzA (k : Nat) {ks : List Item} {T : Tm} {L : Lh} {fr : List Nat} (hr : Holds P fid fn Kt Q h (AM.frzA fn k ks T L fr)) : SemW P fid fn Kt Q h ks T L fr := by
  unfold AM.frzA at hr
  rw [getBK_eq] at hr
  split at hr
  · rename_i b hb
    split at hr
    · exact hr.2
    · rename_i hf
      rw [forceN_eq, forceN_eq, selTK_eq, selBK_eq] at hr
      obtain ⟨C', e, hC⟩ := frzTK_eq k b (selTs T (keepT (readsR fn ks) T [])) (frzBC k b.num b.gen (selBs L (minusN (keysB L []) [k])) True) (fun T' C => forceL (frzBs k b (selBs L (minusN (keysB L []) [k]))) fun L' => (⟨ks, T', L', fr, C⟩ : Cfg))
      rw [e, forceL_eq] at hr
      obtain ⟨h1, h2⟩ := hr
      obtain ⟨h3, h4⟩ := frzTs_ok (hC h1)
      obtain ⟨_, h5⟩ := frzBs_ok (fun e => (mem_minusN e).2 (List.mem_singleton.2 rfl)) h3
      exact SemW.frz k hb hf h4 h5 h2
  · exact hr.2
def zipT : List AV → List Nat → Tm
  | a :: l, n :: m => (n, a) :: zipT l m
  | _, _ => []
abbrev lits : List Nat := [0, 1, 2, 3, 4, 5, 6, 7, 8, 9, 10, 11, 12, 13, 14, 15, 16, 17, 18, 19]
theorem SemW.tellT {ks : List Item} {T : Tm} {L : Lh} {fr : List Nat} (V : Tm) (hT : leTw V T) (hh : SemW P fid fn Kt Q h ks (V ++ T) L fr) : SemW P fid fn Kt Q h ks T L fr := by
  intro E ι a w b cs q1 q2 q3 q4 q5 q6 q7 q8
  refine hh E ι a w b cs q1 q2 q3 q4 (fun t => ?_) q6 q7 q8
  rw [get_app]
  split
  · exact leTw_get hT t E ι _ (q5 t)
  · exact q5 t
theorem getB_app (A B : Lh) (t : Nat) : getB (A ++ B) t = match getB A t with | some b => some b | none => getB B t := by
  induction A with
  | nil => rfl
  | cons p A ih =>
    obtain ⟨u, v⟩ := p
    simp only [List.cons_append, getB]
    cases hb : Nat.beq u t with
    | true => rfl
    | false => exact ih
theorem SemW.tellB {ks : List Item} {T : Tm} {L : Lh} {fr : List Nat} (B : Lh) (hL : leBw B L) (hh : SemW P fid fn Kt Q h ks T (B ++ L) fr) : SemW P fid fn Kt Q h ks T L fr := by
  intro E ι a w b cs q1 q2 q3 q4 q5 q6 q7 q8
  refine hh E ι a w b cs q1 q2 q3 q4 q5 ?_ q7 q8
  have key : ∀ k b, getB (B ++ L) k = some b → ∃ b0, getB L k = some b0 ∧ BlkLe b0 b := by
    intro k b hb
    rw [getB_app] at hb
    cases hB : getB B k with
    | some c =>
      rw [hB] at hb
      cases hb
      exact leBw_get hL k _ hB
    | none => rw [hB] at hb; exact ⟨b, hb, BlkLe.refl b⟩
  have keyp : ∀ i b, hp h (B ++ L) i = some b → ∃ b0, hp h L i = some b0 ∧ BlkLe b0 b := by
    intro i b hb
    cases i with
    | l k => exact key k b hb
    | o i => exact ⟨b, hb, BlkLe.refl b⟩
    | n j => simp [hp] at hb
  exact ⟨q6.kept, q6.os, q6.tape, q6.output, fun i b hb => by obtain ⟨b0, h1, h2⟩ := keyp i b hb; exact h2 _ _ _ _ (q6.ok i b0 h1),
    fun i i' b b' q hb hb' hne p1 p2 => by obtain ⟨b0, h1, _⟩ := keyp i b hb; obtain ⟨b1, h2, _⟩ := keyp i' b' hb'; exact q6.apart i i' b0 b1 q h1 h2 hne p1 p2,
    fun i b q hb p hk => by obtain ⟨b0, h1, _⟩ := keyp i b hb; exact q6.own i b0 q h1 p hk⟩
theorem SemW.entT {ks : List Item} {L : Lh} {fr : List Nat} {args : List AV} (he : argT (renL .o args) 0 = zipT args lits) (hh : SemW P fid fn Kt Q h ks (zipT args lits) L fr) : SemW P fid fn Kt Q h ks (argT (renL .o args) 0) L fr := by rw [he]; exact hh
end
end Go.AM
set_option linter.unusedVariables false
set_option linter.unusedSimpArgs false
namespace Go.AM
variable {P : Program}
abbrev noH : Hp := fun _ => none
theorem hp_noH {h : Hp} {L : Lh} {i : Id} {b : Blk} (hb : hp noH L i = some b) : hp h L i = some b ∧ ∃ k, i = .l k := by
  cases i with
  | l k => exact ⟨hb, k, rfl⟩
  | o i => simp [hp] at hb
  | n j => simp [hp] at hb
theorem Den.sub {E : Env} {ι : Io} {h h2 : Hp} {w : World} (d : Den E ι h w) (hs : ∀ i b, h2 i = some b → h i = some b) : Den E ι h2 w :=
  ⟨d.kept, d.os, d.tape, d.output, fun i b hb => d.ok i b (hs i b hb), fun i i' b b' k hb hb' => d.apart i i' b b' k (hs i b hb) (hs i' b' hb'), fun i b k hb => d.own i b k (hs i b hb)⟩
/-- with one's own blocks as ones that stay: the caller's are as they were -/
theorem Den.lentL {E : Env} {ι : Io} {h : Hp} {L : Lh} {w : World} (d : Den E ι (hp h L) w) : Den (lentE E ι (hp noH L) w) ι (hp h []) w := by
  have hle : E.le (lentE E ι (hp noH L) w) := lentE_le (d.sub fun i b hb => (hp_noH hb).1)
  have old : ∀ i b, hp h [] i = some b → hp h L i = some b ∧ ∃ j, i = .o j := by
    intro i b hb
    cases i with
    | l k => simp [hp, getB] at hb
    | o i => exact ⟨hb, i, rfl⟩
    | n j => simp [hp] at hb
  constructor
  · intro k hk
    refine ⟨rfl, ?_⟩
    rcases hk with hk | ⟨id, b, h1, h2⟩
    · exact d.keep_lt hk
    · exact d.lt (hp_noH h1).1 h2
  · rfl
  · rfl
  · rfl
  · intro i b hb
    exact (d.ok i b (old i b hb).1).mono hle (Io.le.refl ι) rfl (fun _ _ => rfl)
  · intro i i' b b' k hb hb' hne p1 p2
    exact d.apart i i' b b' k (old i b hb).1 (old i' b' hb').1 hne p1 p2
  · intro i b k hb p hk
    obtain ⟨h1, j, rfl⟩ := old i b hb
    rcases hk with hk | ⟨id, b', h2, h3⟩
    · exact d.own _ b k h1 p hk
    · obtain ⟨h4, q, rfl⟩ := hp_noH h2
      exact d.apart _ _ b b' k h1 h4 (by simp) p h3
/-- a call's own names are forgotten -/
theorem Den.leave {E : Env} {ι : Io} {h : Hp} {w : World} (q6 : Den E ι (hp h []) w) (q8 : ∀ j, ι (.n j) = []) : Den E (fun i => match i with | .o i => ι (.o i) | _ => []) (hpN h []) w := by
  refine q6.rename (fun i => i) (fun i b hb => ?_) (fun i i' b b' _ _ e => e)
  cases i with
  | n j => simp [hpN] at hb
  | l k => simp [hpN] at hb
  | o i =>
    refine ⟨b, hb, rfl, ?_⟩
    have hb' := hb
    simp only [hpN, Option.map_eq_some_iff] at hb'
    obtain ⟨b0, hb0, rfl⟩ := hb'
    have back : ∀ {a : AV} {v : Value}, Rel E ι (a.ren .o) v → Rel E (fun i => match i with | .o i => ι (.o i) | _ => []) (a.ren .o) v := by
      intro a v hx
      have := hx.ren (ι' := fun i => match i with | .o i => ι (.o i) | _ => []) (fun i => i) (fun _ => true) (fun id g loc hp hh => by
        cases id with
        | o i => exact hh
        | l k => exact absurd (hp k rfl) (by simp)
        | n j => rw [q8 j] at hh; simp at hh) ((avoid_ren (fun _ => true)).1 a)
      rwa [AV.ren_id _ (fun _ => rfl)] at this
    have := q6.ok (.o i) _ hb
    cases b0 with
    | obj cs =>
      obtain ⟨loc, vs, g1, g2, g3, g4, g5⟩ := this
      refine ⟨loc, vs, g1, g2, g3, g4, fun i hi => ?_⟩
      have := g5 i hi
      rw [renL_getD] at this ⊢
      exact back this
    | arr ag g c n f => exact this
def FLe (a b : AV) : Prop := ∀ (E : Env) (v : Value), RelF E a v → RelF E b v
theorem FLe.refl (a : AV) : FLe a a := fun _ _ h => h
theorem FLe.of {a b : AV} (h : a = b) : FLe a b := h ▸ FLe.refl a
theorem FLe.nil (ag : Bool) (c : Nat) (f : Nat → AV) (cp : Nat) : FLe (.val (.slice none 0 cp)) (.vs ag c 0 f) := fun E v h => by
  cases h; exact .vs0 ag c f none cp
theorem FLe.vs {ag : Bool} {c n n' : Nat} {f f' : Nat → AV} (hn : n = n') (hf : ∀ i, i < n → f i = f' i) : FLe (.vs ag c n f) (.vs ag c n' f') := fun E v h => by
  subst hn
  cases h with
  | vs0 => exact .vs0 _ _ _ _ _
  | vs _ _ _ _ blk o cap vals k1 k2 k3 k4 k5 k6 k7 => exact .vs ag c n f' blk o cap vals k1 k2 k3 (fun i hi => by rw [← hf i hi]; exact k4 i hi) (fun i hi => by rw [← hf i hi]; exact k5 i hi) k6 (fun i j hi hj => by rw [← hf i hi]; exact k7 i j hi hj)
def fLes : List AV → List AV → Prop
  | [], [] => True
  | a :: l, b :: m => FLe a b ∧ fLes l m
  | _, _ => False
theorem fLes_get : ∀ {l m : List AV}, fLes l m → l.length = m.length ∧ ∀ i, FLe (l.getD i .bot) (m.getD i .bot)
  | [], [], _ => ⟨rfl, fun i => FLe.refl _⟩
  | a :: l, b :: m, h => by
    obtain ⟨h1, h2⟩ := h
    obtain ⟨e, h3⟩ := fLes_get h2
    refine ⟨by simp [e], fun i => ?_⟩
    cases i with
    | zero => exact h1
    | succ i => simpa using h3 i
  | [], _ :: _, h => h.elim
  | _ :: _, [], h => h.elim
theorem fLes_refl : ∀ l : List AV, fLes l l
  | [] => trivial
  | a :: l => ⟨FLe.refl a, fLes_refl l⟩
/-- is b told of what a tells, as an element? -/
def ELe (a b : AV) : Prop := a.isAgg = b.isAgg ∧ fLes a.cells b.cells
theorem ELe.refl (a : AV) : ELe a a := ⟨rfl, fLes_refl _⟩
theorem ELe.of {a b : AV} (h : a = b) : ELe a b := h ▸ ELe.refl a
theorem AvLe.vsW {ag : Bool} {c n n' : Nat} {f f' : Nat → AV} (hn : n = n') (hf : ∀ i, i < n → ELe (f i) (f' i)) : AvLe (.vs ag c n f) (.vs ag c n' f') := fun E ι v h => by
  subst hn
  obtain ⟨a, cap, rfl, h2⟩ := rel_vs h
  rcases h2 with rfl | ⟨blk, o, vals, rfl, k1, k2, k3, k4, k5, k6, k7⟩
  · exact .F (.vs0 _ _ _ _ _)
  · exact .F (.vs ag c n f' blk o cap vals k1 k2 k3 (fun i hi => by rw [← (fLes_get (hf i hi).2).1]; exact k4 i hi) (fun i hi => by rw [← (hf i hi).1]; exact k5 i hi) k6 (fun i j hi hj => (fLes_get (hf i hi).2).2 j E _ (k7 i j hi hj)))
section
variable {fid : FuncId} {fn : Func} {Kt : Trk} {Q : AV → Hp → List Blk → Prop} {h : Hp}
/-- A return: rows of one's own that are handed back stay as they are from here on. -/
theorem SemW.retV {ty : TypeId → TI} (hty : TyOk P ty) (hf : P.funcs[fid]? = some fn) {ks : List Item} {T : Tm} {L : Lh} {fr : List Nat} {r r0 : AV} (hk : atRet ks = true) (hr : retOf ty fn T L = some r)
    (hQ : Q r0 h []) (hC : r.viewC (hp noH L)) (hA : AvLe (r.view (hp noH L)) r0) : SemW P fid fn [] Q h ks T L fr := by
  intro E ι a w b cs q1 q2 q3 q4 q5 q6 q7 q8
  obtain ⟨v, hv, hrel⟩ := retOf_sound hty hr q5 q6
  have hsteps : ∃ todo, Steps P (lone (b.at a ks) cs w) (lone { b.at a todo with mode := .returning } cs w) := by
    unfold atRet at hk
    split at hk
    · exact ⟨_, .one step_end⟩
    · exact ⟨_, .one step_ret⟩
    · cases hk
  obtain ⟨todo, hs⟩ := hsteps
  refine ⟨w, _, v, hs, q1, ⟨rfl, q3, q2, fn, by rw [← hf, ← q1]; rfl, hv⟩, ?_⟩
  have dn : Den E ι (hp noH L) w := q6.sub fun i b hb => (hp_noH hb).1
  have d2 := q6.lentL.leave q8.1
  refine ⟨lentE E ι (hp noH L) w, fun i => match i with | .o i => ι (.o i) | _ => [], r0, h, [], lentE_le dn, fun i g l x => x, fun i x => x, fun k => rfl, fun j hj => rfl, d2, ?_, hQ, fun _ _ _ h => (by simp at h)⟩
  have := Rel.view dn hrel hC
  exact hA _ _ _ (this.mono (Env.le.refl _) (fun id g loc hh => by simp at hh))
/-- the same, where the call began by SemC.enter -/
theorem SemW.retD {Q : AV → Hp → List Blk → Prop} {ty : TypeId → TI} (hty : TyOk P ty) (hf : P.funcs[fid]? = some fn) {ks : List Item} {T : Tm} {L : Lh} {fr : List Nat} {r r0 : AV} (hk : atRet ks = true) (hr : retOf ty fn T L = some r)
    (hQ : Q r0 h []) (hd : r0.ren down = r0) (hC : r.viewC (hp noH L)) (hA : AvLe (r.view (hp noH L)) r0) : SemW P fid fn [] (fun r h' N => Q (r.ren down) h' (N.map (Blk.ren down))) h ks T L fr :=
  SemW.retV hty hf hk hr (r0 := r0) (by rw [hd]; exact hQ) hC hA
end
end Go.AM
set_option linter.unusedVariables false
set_option linter.unusedSimpArgs false
open Go Go.AM
namespace Go.AM
/-- a number of 64 bits without a sign, as a value -/
abbrev au (n : Int) : AV := .val (.int .u64 n)
abbrev ab (n : Int) : AV := .val (.int .u8 n)
def sB (l : List Int) : AV := .vs false 1 l.length (fun i => ab (l.getD i 0))
def sU (l : List Int) : AV := .vs false 1 l.length (fun i => au (l.getD i 0))
structure Le where
  id : Int
  w : Int
  a : Int
  frags : List Fr
  closed : Int
  last : Int
  deriving DecidableEq
instance : Inhabited Le := ⟨⟨0, 0, 0, [], 0, 0⟩⟩
def encL (l : Le) : AV := .agg [au l.id, aint l.w, aint l.a, sF l.frags, aint l.closed, au l.last]
abbrev L0 : Le := ⟨0, 0, 0, [], 0, 0⟩
structure Re where
  src : Pl
  kind : Int
  code : Int
  ledger : Int
  n : Int
  epoch : Int
  sure : Int
  body : List Int
  deriving DecidableEq
instance : Inhabited Re := ⟨⟨⟨0, 0⟩, 0, 0, 0, 0, 0, 0, []⟩⟩
def encRe (r : Re) : AV := .agg [aint r.src.node, au r.src.serial, aint r.kind, aint r.code, au r.ledger, au r.n, au r.epoch, au r.sure, sB r.body]
structure Rq where
  dst : Pl
  kind : Int
  ledger : Int
  n : Int
  epoch : Int
  sure : Int
  copy : Int
  body : List Int
  keep : List Int
  deriving DecidableEq
instance : Inhabited Rq := ⟨⟨⟨0, 0⟩, 0, 0, 0, 0, 0, 0, [], []⟩⟩
abbrev Q0 : Rq := ⟨⟨0, 0⟩, 0, 0, 0, 0, 0, 0, [], []⟩
def encRq (r : Rq) : AV := .agg [aint r.dst.node, au r.dst.serial, aint r.kind, au r.ledger, au r.n, au r.epoch, au r.sure, aint r.copy, sB r.body, sU r.keep]
def sQ (l : List Rq) : AV := .vs true 10 l.length (fun i => encRq (l.getD i Q0))
structure Fe where
  ledger : Int
  n : Int
  set : List Pl
  at_ : Int
  since : Int
  tag : Int
  done : Int
  body : List Int
  deriving DecidableEq
instance : Inhabited Fe := ⟨⟨0, 0, [], 0, 0, 0, 0, []⟩⟩
def encFe (f : Fe) : AV := .agg [au f.ledger, au f.n, sP f.set, aint f.at_, au f.since, au f.tag, aint f.done, sB f.body]
abbrev E0 : Fe := ⟨0, 0, [], 0, 0, 0, 0, []⟩
end Go.AM
set_option linter.unusedVariables false
set_option linter.unusedSimpArgs false
open Go Go.AM
namespace Go.AM
theorem fresh1_geG : ∀ n ∈ fresh1, 1 ≤ n := by decide
variable {α : Type}
theorem getD_app {d : α} {l m : List α} {j : Nat} (h : j < l.length) : (l ++ m).getD j d = l.getD j d := by
  simp only [List.getD_eq_getElem?_getD]
  rw [List.getElem?_append_left h]
theorem app1E {enc : α → AV} {d : α} {l : List α} {x : α} {z v : AV} (hv : v = enc x) : ∀ j, j < (l ++ [x]).length → (bif Nat.blt j l.length then enc (l.getD (0 + j) d) else fillE (fun _ => z) [(0, v)] (0 + (j - l.length))) = enc ((l ++ [x]).getD j d) := by
  intro j hj
  refine app1 (f := fun j => enc (l.getD j d)) (f' := fun j => enc ((l ++ [x]).getD j d)) (fun j hj => ?_) ?_ j (by simpa using hj)
  · rw [getD_app hj]
  · rw [hv]
    simp
theorem take_snoc {d : α} {l : List α} {i : Nat} (h : i < l.length) : l.take (i + 1) = l.take i ++ [l.getD i d] := by
  rw [List.take_add_one, List.getElem?_eq_getElem h]
  simp [h]
end Go.AM
set_option linter.unusedVariables false
set_option linter.unusedSimpArgs false
namespace Go.AM
variable {P : Program}
def delB (k : Nat) : Lh → Lh
  | [] => []
  | (q, b) :: L => bif Nat.beq q k then delB k L else (q, b) :: delB k L
theorem getB_delB (k : Nat) : ∀ (L : Lh) (q : Nat) (b : Blk), getB (delB k L) q = some b → q ≠ k ∧ getB L q = some b
  | [], _, _, h => by cases h
  | (p, c) :: L, q, b, h => by
    simp only [delB] at h
    cases hb : Nat.beq p k with
    | true =>
      rw [hb] at h
      obtain ⟨h1, h2⟩ := getB_delB k L q b h
      refine ⟨h1, ?_⟩
      have : Nat.beq p q = false := by
        cases hx : Nat.beq p q with
        | false => rfl
        | true => exact absurd ((Nat.eq_of_beq_eq_true hx).symm.trans (Nat.eq_of_beq_eq_true hb)) h1
      simp only [getB, this, cond_false]
      exact h2
    | false =>
      rw [hb] at h
      simp only [cond_false, getB] at h ⊢
      cases hx : Nat.beq p q with
      | true =>
        rw [hx] at h
        refine ⟨fun e => ?_, h⟩
        have := Nat.eq_of_beq_eq_true hx
        subst this
        subst e
        simp at hb
      | false =>
        rw [hx] at h
        exact getB_delB k L q b h
theorem Den.drop {E E' : Env} {ι : Io} {h : Hp} {L : Lh} {w : World} (d : Den E ι (hp h L) w) {k : Nat} {b : Blk} (hb : getB L k = some b) (hle : E.le E') (hw : E'.w = w) (hk : ∀ i, E'.keep i ↔ E.keep i ∨ place ι (.l k) = some i) : Den E' ι (hp h (delB k L)) w := by
  have orig : ∀ i c, hp h (delB k L) i = some c → hp h L i = some c ∧ i ≠ .l k := by
    intro i c hc
    cases i with
    | l q => obtain ⟨h1, h2⟩ := getB_delB k L q c hc; exact ⟨h2, fun e => by cases e; exact h1 rfl⟩
    | o i => exact ⟨hc, by simp⟩
    | n j => simp [hp] at hc
  constructor
  · intro i hi
    rcases (hk i).1 hi with h1 | h1
    · exact ⟨by rw [hw], by rw [hw]; exact d.keep_lt h1⟩
    · exact ⟨by rw [hw], by rw [hw]; exact d.lt (id := .l k) hb h1⟩
  · rw [hw]
  · rw [hw]
  · rw [hw]
  · intro i c hc
    exact (d.ok i c (orig i c hc).1).mono hle (Io.le.refl ι) rfl (fun _ _ => rfl)
  · intro i i' c c' q g1 g2 hne p1 p2
    exact d.apart i i' c c' q (orig i c g1).1 (orig i' c' g2).1 hne p1 p2
  · intro i c q g1 p1 hq
    obtain ⟨g, hne⟩ := orig i c g1
    rcases (hk q).1 hq with h1 | h1
    · exact d.own i c q g p1 h1
    · exact d.apart i (.l k) c b q g hb hne p1 h1
theorem OpRun.frz {ops : Array Oper} {i : Nat} {o : Oper} {T : Tm} {h : Hp} {L : Lh} {fr : List Nat} {R : AV → Hp → Lh → List Nat → Prop}
    (hr : OpRun P ops i o T h L fr fun v h1 L1 fr1 => ∃ k g c off len cp ag n f, v = .sl (.l k) g c off len cp ∧ getB L1 k = some (.arr ag g c n f) ∧ off + len ≤ n ∧ R (.vs ag c len (fun i => f (off + i))) h1 (delB k L1) fr1) : OpRun P ops i o T h L fr R := by
  intro E ι a w b cs is rest q5 q6 q7 q8
  obtain ⟨r, w', E', ι', v, h', L', fr', s1, s2, s3, s4, s5, s6, s7, s8, k, g, c, off, len, cp, ag, n, f, rfl, hb, hn, hR⟩ := hr E ι a w b cs is rest q5 q6 q7 q8
  obtain ⟨E2, hle, hw, hfr, hkeep⟩ := s5.frz (k := k) (b := .arr ag g c n f) hb rfl
  have hrel := (s6.mono hle (Io.le.refl ι')).frz k _ hfr (by
    show AV.frzC k n g (.sl (.l k) g c off len cp)
    simp only [AV.frzC, Nat.beq_refl]
    exact ⟨hn, trivial⟩)
  have hv : AV.frz k (.arr ag g c n f) (.sl (.l k) g c off len cp) = .vs ag c len (fun i => f (off + i)) := by
    simp only [AV.frz, Nat.beq_refl]
  rw [hv] at hrel
  exact ⟨r, w', E2, ι', _, h', _, fr', s1, s2.trans hle, s3, s4, s5.drop hb hle hw hkeep, hrel, s7, s8, hR⟩
section
variable {fid : FuncId} {fn : Func} {Kt : Trk} {Q : AV → Hp → List Blk → Prop} {h : Hp}
end
end Go.AM
set_option linter.unusedVariables false
set_option linter.unusedSimpArgs false
open Go Go.AM
namespace Go.Proofs.Try
set_option maxRecDepth 100000
set_option maxHeartbeats 4000000
theorem indexFuncF_spec (l : List Fr) (cf : Nat) (g : Func) (caps : List AV) (is : Fr → Bool) (h : Hp) (Q : AV → Hp → List Blk → Prop) (hl : l.length < 2^62) (hcaps : renL .o caps = caps) (hf : Try.prog.funcs[cf]? = some g) (hn : (g.name == "runtime.NumGoroutine") = false) (hb : g.body.isSome = true)
    (hc : ∀ p ∈ l, ∀ h Q, Q (abool (is p)) h [] → SemC Try.prog cf ([encF p] ++ caps) h Q) (hQ : Q (aint (idxF l is)) h []) : SemC Try.prog 151 [sF l, .fn cf caps] h Q := by
  refine SemC.enter func151 rfl (Nat.le_of_ble_eq_true rfl) fresh fresh_nodup ?_
  have e : renL .o [sF l, .fn cf caps] = [sF l, .fn cf caps] := by simp [renL, AV.ren, sF, hcaps]
  rw [e]
  refine SemW.go tyT_ok mixed ?_
  conv => arg 7; whnf
  refine Holds.mk (by first | (simp; done) | (simp; omega) | omega) ?_
  refine SemW.loop (X := {i : Nat // i ≤ l.findIdx is}) (fun i => [(0, sF l), (1, .fn cf caps), (7, aint l.length), (8, aint i.1)]) (fun _ => []) (fun _ => fresh) (fun i => l.length - i.1) ⟨0, Nat.zero_le _⟩ (SemW.cut ⟨rfl, rfl, rfl, rfl, trivial⟩ trivial fresh_nodup (by simp [avoidT, AV.avoid, sF, avoid_caps hcaps]) rfl) (fun ⟨i, hi⟩ IH => ?_)
  dsimp only at hi IH ⊢
  refine SemW.go tyT_ok mixed ?_
  conv => arg 7; whnf
  refine Holds.mk (by first | (simp; done) | (simp; omega) | omega) ?_
  refine SemW.cond rfl (fun c1 => ?_) (fun c1 => ?_)
  · have hil : i < l.length := by simpa using c1
    have hg : l.getD i ⟨0, []⟩ = l[i] := by simp [hil]
    refine SemW.go tyT_ok mixed ?_
    conv => arg 7; whnf
    refine Holds.mk ((by simp; exact hil)) ?_
    refine SemW.call0 rfl rfl hf hn hb ?_
    have hcall := hc l[i] (List.getElem_mem hil)
    rw [← hg] at hcall
    refine hcall _ _ ⟨rfl, rfl, _, rfl, rfl, rfl, ?_⟩
    refine SemW.go tyT_ok mixed ?_
    conv => arg 7; whnf
    refine Holds.mk (by first | (simp; done) | (simp; omega) | omega) ?_
    refine SemW.cond rfl (fun c2 => ?_) (fun c2 => ?_)
    · refine SemW.go tyT_ok mixed ?_
      conv => arg 7; whnf
      refine Holds.mk (by first | (simp; done) | (simp; omega) | omega) ?_
      refine SemW.ret0 tyT_ok func151 rfl rfl rfl ?_
      rw [hg] at c2
      have hfi : l.findIdx is = i := by
        refine Nat.le_antisymm (Nat.le_of_not_lt fun hlt => ?_) hi
        have := List.not_of_lt_findIdx hlt
        rw [c2] at this
        cases this
      have : idxF l is = (i : Int) := by simp [idxF, hfi, hil]
      rw [this] at hQ
      exact hQ
    · refine SemW.go tyT_ok mixed ?_
      conv => arg 7; whnf
      refine Holds.mk (by first | (simp; done) | (simp; omega) | omega) ?_
      rw [hg] at c2
      have hi' : i + 1 ≤ l.findIdx is := by
        refine Nat.lt_of_le_of_ne hi fun e => ?_
        have h2 : l.findIdx is < l.length := by omega
        have := List.findIdx_getElem (w := h2)
        simp only [← e] at this
        rw [c2] at this
        cases this
      have IH' := IH ⟨i + 1, hi'⟩ (by show l.length - (i + 1) < l.length - i; omega)
      refine SemW.cut ?_ ?_ fresh_nodup (by simp [avoidT, AV.avoid, sF, avoid_caps hcaps]) rfl IH'
      · exact ⟨rfl, rfl, rfl, incI (by omega), trivial⟩
      · trivial
  · refine SemW.go tyT_ok mixed ?_
    conv => arg 7; whnf
    refine Holds.mk (by first | (simp; done) | (simp; omega) | omega) ?_
    refine SemW.ret0 tyT_ok func151 rfl rfl rfl ?_
    have : idxF l is = -1 := by
      simp at c1
      rw [idxF, if_neg (by omega)]
    rw [this] at hQ
    exact hQ
theorem containsFuncF_spec (l : List Fr) (cf : Nat) (g : Func) (caps : List AV) (is : Fr → Bool) (h : Hp) (Q : AV → Hp → List Blk → Prop) (hl : l.length < 2^62) (hcaps : renL .o caps = caps) (hf : Try.prog.funcs[cf]? = some g) (hn : (g.name == "runtime.NumGoroutine") = false) (hb : g.body.isSome = true)
    (hc : ∀ p ∈ l, ∀ h Q, Q (abool (is p)) h [] → SemC Try.prog cf ([encF p] ++ caps) h Q) (hQ : Q (abool (l.any is)) h []) : SemC Try.prog 140 [sF l, .fn cf caps] h Q := by
  refine SemC.enter func140 rfl (Nat.le_of_ble_eq_true rfl) fresh fresh_nodup ?_
  have e : renL .o [sF l, .fn cf caps] = [sF l, .fn cf caps] := by simp [renL, AV.ren, sF, hcaps]
  rw [e]
  refine SemW.go tyT_ok mixed ?_
  conv => arg 7; whnf
  refine Holds.mk (by first | (simp; done) | (simp; omega) | omega) ?_
  refine SemW.call0 rfl rfl func151 rfl rfl ?_
  refine indexFuncF_spec l cf g caps is _ _ hl hcaps hf hn hb hc ⟨rfl, rfl, _, rfl, rfl, rfl, ?_⟩
  refine SemW.go tyT_ok mixed ?_
  conv => arg 7; whnf
  refine Holds.mk (by first | (simp; done) | (simp; omega) | omega) ?_
  refine SemW.ret0 tyT_ok func140 rfl rfl rfl ?_
  have : decide (0 ≤ idxF l is) = l.any is := idxF_any l _
  rw [← this] at hQ
  exact hQ
theorem fromI_spec (n a b : Int) (h : Hp) (Q : AV → Hp → List Blk → Prop) (hQ : Q (abool (decide (a ≤ n) && decide (n ≤ b))) h []) : SemC Try.prog 92 [aint n, aint a, aint b] h Q := by
  refine SemC.enter func92 rfl (Nat.le_of_ble_eq_true rfl) fresh fresh_nodup ?_
  refine SemW.entT rfl ?_
  repeat' first
    | contradiction
    | (refine SemW.splitG rfl (fun c => ?_) (fun c => ?_) <;> (fail_if_success (cases c; done)))
    | (refine SemDr.splitG rfl (fun c => ?_) (fun c => ?_) <;> (fail_if_success (cases c; done)))
    | (refine SemW.goP tyT_ok mixed ?_; (conv => arg 8; whnf); refine HoldsP.mk rfl (by first | trivial | (simp; done) | (simp; omega) | omega) ?_)
    | (refine SemDr.goP tyT_ok ?_; (conv => arg 12; whnf); refine HoldsDP.mk rfl (by first | trivial | (simp; done) | (simp; omega) | omega) ?_)
    | (refine SemDr.end rfl ?_)
    | (refine SemW.cond rfl (fun c => ?_) (fun c => ?_))
    | (refine SemW.draw mixed rfl rfl ?_)
  all_goals
    (refine SemW.ret0 tyT_ok func92 rfl rfl rfl ?_; refine cast (congrArg (fun r => Q r h []) ?_) hQ; clear hQ; first | (simp_all [AV.ren, renL]; done) | (simp_all [AV.ren, renL]; omega))
theorem fromU_spec (n a b : Int) (h : Hp) (Q : AV → Hp → List Blk → Prop) (hQ : Q (abool (decide (a ≤ n) && decide (n ≤ b))) h []) : SemC Try.prog 91 [au n, au a, au b] h Q := by
  refine SemC.enter func91 rfl (Nat.le_of_ble_eq_true rfl) fresh fresh_nodup ?_
  refine SemW.entT rfl ?_
  repeat' first
    | contradiction
    | (refine SemW.splitG rfl (fun c => ?_) (fun c => ?_) <;> (fail_if_success (cases c; done)))
    | (refine SemDr.splitG rfl (fun c => ?_) (fun c => ?_) <;> (fail_if_success (cases c; done)))
    | (refine SemW.goP tyT_ok mixed ?_; (conv => arg 8; whnf); refine HoldsP.mk rfl (by first | trivial | (simp; done) | (simp; omega) | omega) ?_)
    | (refine SemDr.goP tyT_ok ?_; (conv => arg 12; whnf); refine HoldsDP.mk rfl (by first | trivial | (simp; done) | (simp; omega) | omega) ?_)
    | (refine SemDr.end rfl ?_)
    | (refine SemW.cond rfl (fun c => ?_) (fun c => ?_))
    | (refine SemW.draw mixed rfl rfl ?_)
  all_goals
    (refine SemW.ret0 tyT_ok func91 rfl rfl rfl ?_; refine cast (congrArg (fun r => Q r h []) ?_) hQ; clear hQ; first | (simp_all [AV.ren, renL]; done) | (simp_all [AV.ren, renL]; omega))
theorem allF1_spec (p : Fr) (cf : Nat) (g : Func) (caps : List AV) (is : Fr → Bool) (h : Hp) (Q : AV → Hp → List Blk → Prop) (hcaps : CapsOk caps) (hf : Try.prog.funcs[cf]? = some g) (hn : (g.name == "runtime.NumGoroutine") = false) (hb : g.body.isSome = true)
    (hc : ∀ h Q, Q (abool (is p)) h [] → SemC Try.prog cf ([encF p] ++ caps) h Q) (hQ : Q (abool (!is p)) h []) : SemC Try.prog 141 [encF p, .vp true 1 (.agg [.fn cf caps]) 0] h Q := by
  refine SemC.enter func141 rfl (Nat.le_of_ble_eq_true rfl) fresh fresh_nodup ?_
  refine SemW.entT rfl ?_
  refine SemW.go tyT_ok mixed ?_
  conv => arg 7; whnf
  refine Holds.mk (by first | (simp; done) | (simp; omega) | omega) ?_
  refine SemW.call0 rfl rfl hf hn hb ?_
  refine hc _ _ ⟨rfl, rfl, _, rfl, rfl, rfl, ?_⟩
  refine SemW.go tyT_ok mixed ?_
  conv => arg 7; whnf
  refine Holds.mk (by first | (simp; done) | (simp; omega) | omega) ?_
  (refine SemW.ret0 tyT_ok func141 rfl rfl rfl ?_; refine cast (congrArg (fun r => Q r h []) ?_) hQ; clear hQ; first | (simp_all [AV.ren, renL]; done) | (simp_all [AV.ren, renL]; omega))
theorem allF_spec (l : List Fr) (cf : Nat) (g : Func) (caps : List AV) (is : Fr → Bool) (h : Hp) (Q : AV → Hp → List Blk → Prop) (hl : l.length < 2^62) (hcaps : CapsOk caps) (hid : idFreeL caps = true) (hf : Try.prog.funcs[cf]? = some g) (hn : (g.name == "runtime.NumGoroutine") = false) (hb : g.body.isSome = true)
    (hc : ∀ p ∈ l, ∀ h Q, Q (abool (is p)) h [] → SemC Try.prog cf ([encF p] ++ caps) h Q) (hQ : Q (abool (l.all is)) h []) : SemC Try.prog 124 [sF l, .fn cf caps] h Q := by
  refine SemC.enter func124 rfl (Nat.le_of_ble_eq_true rfl) fresh fresh_nodup ?_
  have e : renL .o [sF l, .fn cf caps] = [sF l, .fn cf caps] := by simp [renL, AV.ren, sF, hcaps.ren]
  rw [e]
  refine SemW.go tyT_ok mixed ?_
  conv => arg 7; whnf
  refine Holds.mk (by first | (simp; done) | (simp; omega) | omega) ?_
  refine SemW.call0 rfl rfl func140 rfl rfl ?_
  refine SemC.view [sF l, .fn 141 [.vp true 1 (.agg [.fn cf caps]) 0]] ⟨AvLe.refl _, AvLe.of (by simp [AV.view, viewL, idFreeL, AV.idFree, hid, hp, getB, AV.cells]), trivial⟩ ⟨trivial, ⟨trivial, trivial⟩, trivial⟩ ?_
  refine containsFuncF_spec l 141 _ [.vp true 1 (.agg [.fn cf caps]) 0] (fun p => !is p) _ _ hl rfl func141 rfl rfl (fun p hp h Q hQ => allF1_spec p cf g caps is h Q hcaps hf hn hb (hc p hp) hQ) ⟨rfl, trivial, rfl, rfl, _, rfl, rfl, by simp [renB, Blk.ren, renL, AV.ren, AV.cells, hcaps.ren], ?_⟩
  refine SemW.go tyT_ok mixed ?_
  conv => arg 7; whnf
  refine Holds.mk (by first | (simp; done) | (simp; omega) | omega) ?_
  (refine SemW.ret0 tyT_ok func124 rfl rfl rfl ?_; refine cast (congrArg (fun r => Q r h []) ?_) hQ; clear hQ; simp [AV.ren, List.all_eq_not_any_not])
theorem allP1_spec (p : Pl) (cf : Nat) (g : Func) (caps : List AV) (is : Pl → Bool) (h : Hp) (Q : AV → Hp → List Blk → Prop) (hcaps : CapsOk caps) (hf : Try.prog.funcs[cf]? = some g) (hn : (g.name == "runtime.NumGoroutine") = false) (hb : g.body.isSome = true)
    (hc : ∀ h Q, Q (abool (is p)) h [] → SemC Try.prog cf ([encP p] ++ caps) h Q) (hQ : Q (abool (!is p)) h []) : SemC Try.prog 155 [encP p, .vp true 1 (.agg [.fn cf caps]) 0] h Q := by
  refine SemC.enter func155 rfl (Nat.le_of_ble_eq_true rfl) fresh fresh_nodup ?_
  refine SemW.entT rfl ?_
  refine SemW.go tyT_ok mixed ?_
  conv => arg 7; whnf
  refine Holds.mk (by first | (simp; done) | (simp; omega) | omega) ?_
  refine SemW.call0 rfl rfl hf hn hb ?_
  refine hc _ _ ⟨rfl, rfl, _, rfl, rfl, rfl, ?_⟩
  refine SemW.go tyT_ok mixed ?_
  conv => arg 7; whnf
  refine Holds.mk (by first | (simp; done) | (simp; omega) | omega) ?_
  (refine SemW.ret0 tyT_ok func155 rfl rfl rfl ?_; refine cast (congrArg (fun r => Q r h []) ?_) hQ; clear hQ; first | (simp_all [AV.ren, renL]; done) | (simp_all [AV.ren, renL]; omega))
theorem allP_spec (l : List Pl) (cf : Nat) (g : Func) (caps : List AV) (is : Pl → Bool) (h : Hp) (Q : AV → Hp → List Blk → Prop) (hl : l.length < 2^62) (hcaps : CapsOk caps) (hid : idFreeL caps = true) (hf : Try.prog.funcs[cf]? = some g) (hn : (g.name == "runtime.NumGoroutine") = false) (hb : g.body.isSome = true)
    (hc : ∀ p ∈ l, ∀ h Q, Q (abool (is p)) h [] → SemC Try.prog cf ([encP p] ++ caps) h Q) (hQ : Q (abool (l.all is)) h []) : SemC Try.prog 145 [sP l, .fn cf caps] h Q := by
  refine SemC.enter func145 rfl (Nat.le_of_ble_eq_true rfl) fresh fresh_nodup ?_
  have e : renL .o [sP l, .fn cf caps] = [sP l, .fn cf caps] := by simp [renL, AV.ren, sP, hcaps.ren]
  rw [e]
  refine SemW.go tyT_ok mixed ?_
  conv => arg 7; whnf
  refine Holds.mk (by first | (simp; done) | (simp; omega) | omega) ?_
  refine SemW.call0 rfl rfl func104 rfl rfl ?_
  refine SemC.view [sP l, .fn 155 [.vp true 1 (.agg [.fn cf caps]) 0]] ⟨AvLe.refl _, AvLe.of (by simp [AV.view, viewL, idFreeL, AV.idFree, hid, hp, getB, AV.cells]), trivial⟩ ⟨trivial, ⟨trivial, trivial⟩, trivial⟩ ?_
  refine containsFunc_spec l 155 _ [.vp true 1 (.agg [.fn cf caps]) 0] (fun p => !is p) _ _ hl rfl func155 rfl rfl (fun p hp h Q hQ => allP1_spec p cf g caps is h Q hcaps hf hn hb (hc p hp) hQ) ⟨rfl, trivial, rfl, rfl, _, rfl, rfl, by simp [renB, Blk.ren, renL, AV.ren, AV.cells, hcaps.ren], ?_⟩
  refine SemW.go tyT_ok mixed ?_
  conv => arg 7; whnf
  refine Holds.mk (by first | (simp; done) | (simp; omega) | omega) ?_
  (refine SemW.ret0 tyT_ok func145 rfl rfl rfl ?_; refine cast (congrArg (fun r => Q r h []) ?_) hQ; clear hQ; simp [AV.ren, List.all_eq_not_any_not])
end Go.Proofs.Try
set_option linter.unusedVariables false
set_option linter.unusedSimpArgs false
open Go Go.AM
namespace Go.Proofs.Try
set_option maxRecDepth 100000
set_option maxHeartbeats 4000000
/-- does the i-th rise over the one ahead of it? -/
def upF (l : List Fr) (i : Nat) : Bool := !(decide ((i : Int) > 0) && decide ((l.getD i F0).first ≤ (l.getD (i - 1) F0).first))
def upP (l : List Pl) (i : Nat) : Bool := !(decide ((i : Int) > 0) && decide ((l.getD i P0).node ≤ (l.getD (i - 1) P0).node))
theorem firstF_spec (f : Fr) (h : Hp) (Q : AV → Hp → List Blk → Prop) (hQ : Q (au f.first) h []) : SemC Try.prog 128 [encF f] h Q := by
  refine SemC.enter func128 rfl (Nat.le_of_ble_eq_true rfl) fresh fresh_nodup ?_
  refine SemW.entT rfl ?_
  refine SemW.go tyT_ok mixed ?_
  conv => arg 7; whnf
  refine Holds.mk (by first | (simp; done) | (simp; omega) | omega) ?_
  (refine SemW.ret0 tyT_ok func128 rfl rfl rfl ?_; refine cast (congrArg (fun r => Q r h []) ?_) hQ; clear hQ; rfl)
theorem nodeP_spec (f : Pl) (h : Hp) (Q : AV → Hp → List Blk → Prop) (hQ : Q (aint f.node) h []) : SemC Try.prog 148 [encP f] h Q := by
  refine SemC.enter func148 rfl (Nat.le_of_ble_eq_true rfl) fresh fresh_nodup ?_
  refine SemW.entT rfl ?_
  refine SemW.go tyT_ok mixed ?_
  conv => arg 7; whnf
  refine Holds.mk (by first | (simp; done) | (simp; omega) | omega) ?_
  (refine SemW.ret0 tyT_ok func148 rfl rfl rfl ?_; refine cast (congrArg (fun r => Q r h []) ?_) hQ; clear hQ; rfl)
theorem riseF_spec (l : List Fr) (h : Hp) (Q : AV → Hp → List Blk → Prop) (hl : l.length < 2^62) (hQ : Q (abool ((List.range l.length).all (upF l))) h []) : SemC Try.prog 127 [sF l, .fn 128 []] h Q := by
  refine SemC.enter func127 rfl (Nat.le_of_ble_eq_true rfl) fresh fresh_nodup ?_
  refine SemW.entT rfl ?_
  refine SemW.go tyT_ok mixed ?_
  conv => arg 7; whnf
  refine Holds.mk (by first | (simp; done) | (simp; omega) | omega) ?_
  refine SemW.loopG (X := {m : Nat // (m = 0 ∨ m + 1 ≤ l.length) ∧ (List.range (m + 1)).all (upF l) = true}) (fun x => [(5, aint ((x.1 + 1 : Nat) : Int))]) (fun x => []) (fun x => l.length - x.1) (⟨0, .inl rfl, rfl⟩) ?_
  conv => arg 15; whnf
  refine LoopC.mk ?sT ?sL (by decide) rfl rfl rfl ?_
  case sT => repeat' first | exact trivial | refine And.intro ?_ ?_ | (first | exact AvLe.of (incI (by omega)) | exact AvLe.of (incU (by omega)) | exact AvLe.of (decI (by omega)) | exact AvLe.refl _ | exact AvLe.sl (by first | rfl | (simp; done) | omega) (by first | exact Nat.le_refl _ | (simp; done) | omega) (by first | exact Nat.le_refl _ | (simp; done) | (simp; omega) | omega))
  case sL => repeat' first | exact trivial | refine And.intro ?_ ?_ | exact ⟨_, rfl, BlkLe.refl _⟩ | exact ⟨_, rfl, BlkLe.arr (by simp; done) (app1P rfl)⟩ | exact ⟨_, rfl, BlkLe.arr (by simp; done) (app1E rfl)⟩ | exact ⟨_, rfl, BlkLe.arr (by simp; done) (fun j _ => by simp [blt_zero]; done)⟩
  rintro ⟨m, hm, ha⟩ IH
  dsimp only at hm ha IH ⊢
  refine SemW.go tyT_ok mixed ?_
  conv => arg 7; whnf
  refine Holds.mk (by first | (simp; done) | (simp; omega) | omega) ?_
  refine SemW.cond rfl (fun c1 => ?_) (fun c1 => ?_)
  · have hml : m + 1 < l.length := by simp at c1; omega
    have e1 : IntKind.i64.wrap (((m + 1 : Nat) : Int) - 1) = (m : Int) := by rw [wrap_i64 (by omega) (by omega)]; omega
    refine SemW.go tyT_ok mixed ?_
    conv => arg 7; whnf
    refine Holds.mk (by first | (simp; done) | (simp; omega) | omega) ?_
    refine SemW.draw mixed rfl rfl ?_
    refine SemDr.go tyT_ok ?_
    conv => arg 10; whnf
    refine HoldsD.mk ((by simp only [e1]; simp; omega)) ?_
    refine SemDr.call0 rfl func128 rfl rfl ?_
    refine firstF_spec _ _ _ ⟨rfl, rfl, _, rfl, rfl, rfl, ?_⟩
    refine SemDr.go tyT_ok ?_
    conv => arg 10; whnf
    refine HoldsD.mk (by simp) ?_
    refine SemDr.call0 rfl func128 rfl rfl ?_
    refine firstF_spec _ _ _ ⟨rfl, rfl, _, rfl, rfl, rfl, ?_⟩
    refine SemDr.go tyT_ok ?_
    conv => arg 10; whnf
    refine HoldsD.mk (by simp) ?_
    refine SemDr.end rfl ?_
    rw [e1]
    refine SemW.cond rfl (fun c2 => ?_) (fun c2 => ?_)
    · have hf : upF l (m + 1) = false := by
        unfold upF
        simp at c2 ⊢
        first | exact c2 | exact ⟨by omega, c2⟩
      rw [all_false hml hf] at hQ
      refine SemW.go tyT_ok mixed ?_
      conv => arg 7; whnf
      refine Holds.mk (by first | (simp; done) | (simp; omega) | omega) ?_
      (refine SemW.ret0 tyT_ok func127 rfl rfl rfl ?_; refine cast (congrArg (fun r => Q r h []) ?_) hQ; clear hQ; rfl)
    · have hf : upF l (m + 1) = true := by
        unfold upF
        simp at c2 ⊢
        first | exact c2 | (intro _; exact c2)
      refine SemW.go tyT_ok mixed ?_
      conv => arg 7; whnf
      refine Holds.mk (by first | (simp; done) | (simp; omega) | omega) ?_
      refine SemW.back (IH ⟨m + 1, .inr hml, all_succ ha hf⟩ (by show l.length - (m + 1) < l.length - m; omega)) ?bT ?bL rfl rfl (by decide) rfl rfl rfl
      case bT => repeat' first | exact trivial | refine And.intro ?_ ?_ | (first | exact AvLe.of (incI (by omega)) | exact AvLe.of (incU (by omega)) | exact AvLe.of (decI (by omega)) | exact AvLe.refl _ | exact AvLe.sl (by first | rfl | (simp; done) | omega) (by first | exact Nat.le_refl _ | (simp; done) | omega) (by first | exact Nat.le_refl _ | (simp; done) | (simp; omega) | omega))
      case bL => repeat' first | exact trivial | refine And.intro ?_ ?_ | exact ⟨_, rfl, BlkLe.refl _⟩ | exact ⟨_, rfl, BlkLe.arr (by simp; done) (app1P rfl)⟩ | exact ⟨_, rfl, BlkLe.arr (by simp; done) (app1E rfl)⟩ | exact ⟨_, rfl, BlkLe.arr (by simp; done) (fun j _ => by simp [blt_zero]; done)⟩
  · have hle : (List.range l.length).all (upF l) = true := by
      rcases hm with rfl | hm
      · rw [List.all_eq_true] at ha ⊢
        intro i hi
        have : i < l.length := by simpa using hi
        have h2 : i < 1 := by simp at c1; omega
        exact ha i (by simpa using h2)
      · have : l.length = m + 1 := by simp at c1; omega
        rw [this]; exact ha
    rw [hle] at hQ
    refine SemW.go tyT_ok mixed ?_
    conv => arg 7; whnf
    refine Holds.mk (by first | (simp; done) | (simp; omega) | omega) ?_
    (refine SemW.ret0 tyT_ok func127 rfl rfl rfl ?_; refine cast (congrArg (fun r => Q r h []) ?_) hQ; clear hQ; rfl)
theorem riseP_spec (l : List Pl) (h : Hp) (Q : AV → Hp → List Blk → Prop) (hl : l.length < 2^62) (hQ : Q (abool ((List.range l.length).all (upP l))) h []) : SemC Try.prog 147 [sP l, .fn 148 []] h Q := by
  refine SemC.enter func147 rfl (Nat.le_of_ble_eq_true rfl) fresh fresh_nodup ?_
  refine SemW.entT rfl ?_
  refine SemW.go tyT_ok mixed ?_
  conv => arg 7; whnf
  refine Holds.mk (by first | (simp; done) | (simp; omega) | omega) ?_
  refine SemW.loopG (X := {m : Nat // (m = 0 ∨ m + 1 ≤ l.length) ∧ (List.range (m + 1)).all (upP l) = true}) (fun x => [(5, aint ((x.1 + 1 : Nat) : Int))]) (fun x => []) (fun x => l.length - x.1) (⟨0, .inl rfl, rfl⟩) ?_
  conv => arg 15; whnf
  refine LoopC.mk ?sT ?sL (by decide) rfl rfl rfl ?_
  case sT => repeat' first | exact trivial | refine And.intro ?_ ?_ | (first | exact AvLe.of (incI (by omega)) | exact AvLe.of (incU (by omega)) | exact AvLe.of (decI (by omega)) | exact AvLe.refl _ | exact AvLe.sl (by first | rfl | (simp; done) | omega) (by first | exact Nat.le_refl _ | (simp; done) | omega) (by first | exact Nat.le_refl _ | (simp; done) | (simp; omega) | omega))
  case sL => repeat' first | exact trivial | refine And.intro ?_ ?_ | exact ⟨_, rfl, BlkLe.refl _⟩ | exact ⟨_, rfl, BlkLe.arr (by simp; done) (app1P rfl)⟩ | exact ⟨_, rfl, BlkLe.arr (by simp; done) (app1E rfl)⟩ | exact ⟨_, rfl, BlkLe.arr (by simp; done) (fun j _ => by simp [blt_zero]; done)⟩
  rintro ⟨m, hm, ha⟩ IH
  dsimp only at hm ha IH ⊢
  refine SemW.go tyT_ok mixed ?_
  conv => arg 7; whnf
  refine Holds.mk (by first | (simp; done) | (simp; omega) | omega) ?_
  refine SemW.cond rfl (fun c1 => ?_) (fun c1 => ?_)
  · have hml : m + 1 < l.length := by simp at c1; omega
    have e1 : IntKind.i64.wrap (((m + 1 : Nat) : Int) - 1) = (m : Int) := by rw [wrap_i64 (by omega) (by omega)]; omega
    refine SemW.go tyT_ok mixed ?_
    conv => arg 7; whnf
    refine Holds.mk (by first | (simp; done) | (simp; omega) | omega) ?_
    refine SemW.draw mixed rfl rfl ?_
    refine SemDr.go tyT_ok ?_
    conv => arg 10; whnf
    refine HoldsD.mk ((by simp only [e1]; simp; omega)) ?_
    refine SemDr.call0 rfl func148 rfl rfl ?_
    refine nodeP_spec _ _ _ ⟨rfl, rfl, _, rfl, rfl, rfl, ?_⟩
    refine SemDr.go tyT_ok ?_
    conv => arg 10; whnf
    refine HoldsD.mk (by simp) ?_
    refine SemDr.call0 rfl func148 rfl rfl ?_
    refine nodeP_spec _ _ _ ⟨rfl, rfl, _, rfl, rfl, rfl, ?_⟩
    refine SemDr.go tyT_ok ?_
    conv => arg 10; whnf
    refine HoldsD.mk (by simp) ?_
    refine SemDr.end rfl ?_
    rw [e1]
    refine SemW.cond rfl (fun c2 => ?_) (fun c2 => ?_)
    · have hf : upP l (m + 1) = false := by
        unfold upP
        simp at c2 ⊢
        first | exact c2 | exact ⟨by omega, c2⟩
      rw [all_false hml hf] at hQ
      refine SemW.go tyT_ok mixed ?_
      conv => arg 7; whnf
      refine Holds.mk (by first | (simp; done) | (simp; omega) | omega) ?_
      (refine SemW.ret0 tyT_ok func147 rfl rfl rfl ?_; refine cast (congrArg (fun r => Q r h []) ?_) hQ; clear hQ; rfl)
    · have hf : upP l (m + 1) = true := by
        unfold upP
        simp at c2 ⊢
        first | exact c2 | (intro _; exact c2)
      refine SemW.go tyT_ok mixed ?_
      conv => arg 7; whnf
      refine Holds.mk (by first | (simp; done) | (simp; omega) | omega) ?_
      refine SemW.back (IH ⟨m + 1, .inr hml, all_succ ha hf⟩ (by show l.length - (m + 1) < l.length - m; omega)) ?bT ?bL rfl rfl (by decide) rfl rfl rfl
      case bT => repeat' first | exact trivial | refine And.intro ?_ ?_ | (first | exact AvLe.of (incI (by omega)) | exact AvLe.of (incU (by omega)) | exact AvLe.of (decI (by omega)) | exact AvLe.refl _ | exact AvLe.sl (by first | rfl | (simp; done) | omega) (by first | exact Nat.le_refl _ | (simp; done) | omega) (by first | exact Nat.le_refl _ | (simp; done) | (simp; omega) | omega))
      case bL => repeat' first | exact trivial | refine And.intro ?_ ?_ | exact ⟨_, rfl, BlkLe.refl _⟩ | exact ⟨_, rfl, BlkLe.arr (by simp; done) (app1P rfl)⟩ | exact ⟨_, rfl, BlkLe.arr (by simp; done) (app1E rfl)⟩ | exact ⟨_, rfl, BlkLe.arr (by simp; done) (fun j _ => by simp [blt_zero]; done)⟩
  · have hle : (List.range l.length).all (upP l) = true := by
      rcases hm with rfl | hm
      · rw [List.all_eq_true] at ha ⊢
        intro i hi
        have : i < l.length := by simpa using hi
        have h2 : i < 1 := by simp at c1; omega
        exact ha i (by simpa using h2)
      · have : l.length = m + 1 := by simp at c1; omega
        rw [this]; exact ha
    rw [hle] at hQ
    refine SemW.go tyT_ok mixed ?_
    conv => arg 7; whnf
    refine Holds.mk (by first | (simp; done) | (simp; omega) | omega) ?_
    (refine SemW.ret0 tyT_ok func147 rfl rfl rfl ?_; refine cast (congrArg (fun r => Q r h []) ?_) hQ; clear hQ; rfl)
theorem placeOk_spec (p : Pl) (h : Hp) (Q : AV → Hp → List Blk → Prop) (hQ : Q (abool (placeB p)) h []) : SemC Try.prog 146 [encP p] h Q := by
  refine SemC.enter func146 rfl (Nat.le_of_ble_eq_true rfl) fresh fresh_nodup ?_
  refine SemW.entT rfl ?_
  repeat' first
    | contradiction
    | (refine SemW.splitG rfl (fun c => ?_) (fun c => ?_) <;> (fail_if_success (cases c; done)))
    | (refine SemDr.splitG rfl (fun c => ?_) (fun c => ?_) <;> (fail_if_success (cases c; done)))
    | (refine SemW.goP tyT_ok mixed ?_; (conv => arg 8; whnf); refine HoldsP.mk rfl (by first | trivial | (simp; done) | (simp; omega) | omega) ?_)
    | (refine SemDr.goP tyT_ok ?_; (conv => arg 12; whnf); refine HoldsDP.mk rfl (by first | trivial | (simp; done) | (simp; omega) | omega) ?_)
    | (refine SemDr.end rfl ?_)
    | (refine SemW.cond rfl (fun c => ?_) (fun c => ?_))
    | (refine SemW.call0 rfl rfl func92 rfl rfl ?_; refine fromI_spec _ _ _ _ _ ⟨rfl, rfl, _, rfl, rfl, rfl, ?_⟩)
    | (refine SemDr.call0 rfl func92 rfl rfl ?_; refine fromI_spec _ _ _ _ _ ⟨rfl, rfl, _, rfl, rfl, rfl, ?_⟩)
    | (refine SemW.call0 rfl rfl func91 rfl rfl ?_; refine fromU_spec _ _ _ _ _ ⟨rfl, rfl, _, rfl, rfl, rfl, ?_⟩)
    | (refine SemDr.call0 rfl func91 rfl rfl ?_; refine fromU_spec _ _ _ _ _ ⟨rfl, rfl, _, rfl, rfl, rfl, ?_⟩)
    | (refine SemW.draw mixed rfl rfl ?_)
  all_goals
    (refine SemW.ret0 tyT_ok func146 rfl rfl rfl ?_; refine cast (congrArg (fun r => Q r h []) ?_) hQ; clear hQ; (simp_all [AV.ren, placeB] <;> first | omega | (rw [Bool.eq_iff_iff]; simp; omega)))
end Go.Proofs.Try
