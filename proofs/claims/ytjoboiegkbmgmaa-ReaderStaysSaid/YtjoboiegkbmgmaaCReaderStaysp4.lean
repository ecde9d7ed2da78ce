/- Part 4 of the proof of the row ReaderStays: written for this claim by the session and by a program of its own. -/
import Derived.Shelf.SlSortCmp.WholeK
import Derived.Shelf.SlSortCmp.NoneTotal
import Derived.Shelf.SlicesG.Cmp
import Derived.Test.YtjoboiegkbmgmaaProg
import Derived.Test.YtjoboiegkbmgmaaCReaderStaysp3
import Derived.Shelf.GgSortFunc.InsertionK
import Derived.Sort.Statements
set_option linter.unusedVariables false
set_option linter.unusedSimpArgs false
namespace Go.Proofs
open Go.Shelf
def Try.sortPl_ren : Go.Shelf.Ren := ⟨fun | 6 => 142 | 15 => 153 | 14 => 152 | 28 => 164 | 29 => 165 | 20 => 156 | 21 => 157 | 22 => 158 | 23 => 159 | 24 => 160 | 25 => 161 | 26 => 162 | 27 => 163 | 46 => 166 | 47 => 167 | 48 => 168 | 49 => 169 | 50 => 170 | 57 => 171 | n => n, fun | 22 => 30 | 24 => 38 | 25 => 184 | 3 => 3 | 39 => 50 | 0 => 0 | 53 => 201 | 55 => 22 | 4 => 4 | 46 => 194 | 45 => 193 | 50 => 198 | 5 => 5 | 9 => 9 | 66 => 203 | 70 => 207 | 76 => 209 | 77 => 210 | n => n, fun | n => n⟩
theorem Try.sortPl : SlLaysF0.n6 Try.prog Try.sortPl_ren := {
  mixed := by kernel_rfl
  f6 := ⟨Try.f142.name, by decide, Try.func142.trans (congrArg some (by kernel_rfl))⟩
  f14 := ⟨Try.f152.name, by decide, Try.func152.trans (congrArg some (by kernel_rfl))⟩
  f15 := Try.func153.trans (congrArg some (by kernel_rfl))
  f20 := ⟨Try.f156.name, by decide, Try.func156.trans (congrArg some (by kernel_rfl))⟩
  f21 := ⟨Try.f157.name, by decide, Try.func157.trans (congrArg some (by kernel_rfl))⟩
  f22 := ⟨Try.f158.name, by decide, Try.func158.trans (congrArg some (by kernel_rfl))⟩
  f23 := ⟨Try.f159.name, by decide, Try.func159.trans (congrArg some (by kernel_rfl))⟩
  f24 := ⟨Try.f160.name, by decide, Try.func160.trans (congrArg some (by kernel_rfl))⟩
  f25 := ⟨Try.f161.name, by decide, Try.func161.trans (congrArg some (by kernel_rfl))⟩
  f26 := ⟨Try.f162.name, by decide, Try.func162.trans (congrArg some (by kernel_rfl))⟩
  f27 := ⟨Try.f163.name, by decide, Try.func163.trans (congrArg some (by kernel_rfl))⟩
  f28 := Try.func164.trans (congrArg some (by kernel_rfl))
  f29 := Try.func165.trans (congrArg some (by kernel_rfl))
  f46 := ⟨Try.f166.name, by decide, Try.func166.trans (congrArg some (by kernel_rfl))⟩
  f47 := Try.func167.trans (congrArg some (by kernel_rfl))
  f48 := Try.func168.trans (congrArg some (by kernel_rfl))
  f49 := ⟨Try.f169.name, by decide, Try.func169.trans (congrArg some (by kernel_rfl))⟩
  f50 := ⟨Try.f170.name, by decide, Try.func170.trans (congrArg some (by kernel_rfl))⟩
  f57 := ⟨Try.f171.name, by decide, Try.func171.trans (congrArg some (by kernel_rfl))⟩
  t0 := Try.underlying0
  a0 := Try.isAgg0
  z0 := Try.sizeOf0
  v0 := Try.zeroValue0
  t3 := Try.underlying3
  a3 := Try.isAgg3
  z3 := Try.sizeOf3
  v3 := Try.zeroValue3
  t4 := Try.underlying4
  a4 := Try.isAgg4
  z4 := Try.sizeOf4
  v4 := Try.zeroValue4
  t5 := Try.underlying5
  a5 := Try.isAgg5
  z5 := Try.sizeOf5
  v5 := Try.zeroValue5
  t9 := Try.underlying9
  a9 := Try.isAgg9
  z9 := Try.sizeOf9
  v9 := Try.zeroValue9
  t22 := Try.underlying30
  a22 := Try.isAgg30
  z22 := Try.sizeOf30
  v22 := Try.zeroValue30
  t25 := Try.underlying184
  a25 := Try.isAgg184
  z25 := Try.sizeOf184
  v25 := Try.zeroValue184
  t39 := Try.underlying50
  a39 := Try.isAgg50
  z39 := Try.sizeOf50
  v39 := Try.zeroValue50
  t45 := Try.underlying193
  a45 := Try.isAgg193
  z45 := Try.sizeOf193
  v45 := Try.zeroValue193
  t46 := Try.underlying194
  a46 := Try.isAgg194
  z46 := Try.sizeOf194
  v46 := Try.zeroValue194
  t50 := Try.underlying198
  a50 := Try.isAgg198
  z50 := Try.sizeOf198
  v50 := Try.zeroValue198
  t53 := Try.underlying201
  a53 := Try.isAgg201
  z53 := Try.sizeOf201
  v53 := Try.zeroValue201
  t55 := Try.underlying22
  a55 := Try.isAgg22
  z55 := Try.sizeOf22
  v55 := Try.zeroValue22
  t66 := Try.underlying203
  a66 := Try.isAgg203
  z66 := Try.sizeOf203
  v66 := Try.zeroValue203
  t70 := Try.underlying207
  a70 := Try.isAgg207
  z70 := Try.sizeOf207
  v70 := Try.zeroValue207
  t76 := Try.underlying209
  a76 := Try.isAgg209
  z76 := Try.sizeOf209
  v76 := Try.zeroValue209
  t77 := Try.underlying210
  a77 := Try.isAgg210
  z77 := Try.sizeOf210
  v77 := Try.zeroValue210 }
def Try.cmpInt_ren : Go.Shelf.Ren := ⟨fun | 5 => 144 | 7 => 154 | n => n, fun | 22 => 3 | 3 => 3 | 4 => 4 | n => n, fun | n => n⟩
theorem Try.cmpInt : SlLaysC2.n5 Try.prog Try.cmpInt_ren := {
  mixed := by kernel_rfl
  f5 := ⟨Try.f144.name, by decide, Try.func144.trans (congrArg some (by kernel_rfl))⟩
  f7 := ⟨Try.f154.name, by decide, Try.func154.trans (congrArg some (by kernel_rfl))⟩
  t3 := Try.underlying3
  a3 := Try.isAgg3
  z3 := Try.sizeOf3
  v3 := Try.zeroValue3
  t4 := Try.underlying4
  a4 := Try.isAgg4
  z4 := Try.sizeOf4
  v4 := Try.zeroValue4
  t22 := Try.underlying3
  a22 := Try.isAgg3
  z22 := Try.sizeOf3
  v22 := Try.zeroValue3 }
end Go.Proofs
set_option linter.unusedVariables false
set_option linter.unusedSimpArgs false
namespace Go.AM
variable {P : Program}
def trkN (p : Nat → List Loc) : Nat → Nat → Trk
  | 0, _ => []
  | n + 1, k => (k, p k) :: trkN p n (k + 1)
theorem trkN_mem {p : Nat → List Loc} : ∀ {n k q : Nat} {r : List Loc}, (q, r) ∈ trkN p n k → k ≤ q ∧ r = p q
  | 0, _, _, _, h => by cases h
  | n + 1, k, q, r, h => by
    rcases List.mem_cons.1 h with e | e
    · cases e; exact ⟨Nat.le_refl _, rfl⟩
    · obtain ⟨h1, h2⟩ := trkN_mem e
      exact ⟨by omega, h2⟩
theorem trkN_get (p : Nat → List Loc) : ∀ (n k j : Nat), j < n → (trkN p n k)[j]? = some (k + j, p (k + j))
  | 0, _, _, h => by omega
  | n + 1, k, 0, _ => rfl
  | n + 1, k, j + 1, h => by
    have := trkN_get p n (k + 1) j (by omega)
    simp only [trkN, List.getElem?_cons_succ, this]
    rw [show k + 1 + j = k + (j + 1) by omega]
/-- Called with these, and with the blocks bs (named .n): they come back under their names, at their places. -/
def SemCI (P : Program) (f : FuncId) (args : List AV) (bs : List Blk) (h : Hp) (Q : AV → List Blk → Prop) : Prop :=
  ∀ (E : Env) (ι : Io) (vs : Array Value) (w : World), Den E ι (hpC h bs) w → Den E (noN ι) h w → (∀ j, bs.length ≤ j → ι (.n j) = []) → args.length = vs.size → (∀ i, i < args.length → Rel E ι (args.getD i .bot) (vs.getD i undef)) →
    Calls P f vs w fun e w' => ∃ v, e = .returned v ∧ ∃ E' ι' r N, E.le E' ∧ (∀ (i : Id) (g : Nat) (loc : Loc), (∀ j, i ≠ .n j) → (ι i)[g]? = some loc → (ι' i)[g]? = some loc) ∧ (∀ i, ι i = [] → (∀ j, i ≠ .n j) → ι' i = []) ∧ (∀ j, N.length ≤ j → ι' (.n j) = []) ∧ Den E' ι' (hpC h N) w' ∧ Rel E' ι' r v ∧ Q r N ∧
      (∀ j, j < bs.length → ∀ (g : Nat) (loc : Loc), (ι (.n j))[g]? = some loc → (ι' (.n j))[g]? = some loc)
theorem SemCI.enter {f : FuncId} {fn : Func} {c : Code} {args : List AV} {bs : List Blk} {h : Hp} {Q : AV → List Blk → Prop} (hf : P.funcs[f]? = some fn) (hb : fn.body = some c) (hn : args.length ≤ fn.ntmps) (fr : List Nat) (hnd : fr.Nodup) (hfr : ∀ n ∈ fr, bs.length ≤ n)
    (hh : ∀ p : Nat → List Loc, SemW P f fn (trkN p bs.length 0) (fun r h' N => h' = h ∧ Q (r.ren down) (N.map (Blk.ren down))) h [.code c] (argT (renL ent args) 0) (bsL 0 bs) fr) : SemCI P f args bs h Q := by
  intro E ι vs w d dn hno hl hr cs
  let b : Frame := { (default : Frame) with fn := f, kind := .normal }
  have henter : Frame.enter P f vs .normal = b.at { tmps := vs ++ Array.replicate (fn.ntmps - vs.size) undef, defers := [] } [.code c] := by
    simp [Frame.enter, Frame.at, hf, hb, b]
  let ιc : Io := fun i => match i with | .o i => noN ι i | .l k => ι (.n k) | .n _ => []
  have hent : ∀ (id : Id) (g : Nat) (loc : Loc), (ι id)[g]? = some loc → (ιc (ent id))[g]? = some loc := by
    intro id g loc hh
    cases id with
    | n j => exact hh
    | o i => exact hh
    | l k => exact hh
  have hL : ∀ k b, getB (bsL 0 bs) k = some b → ∃ b0, bs[k]? = some b0 ∧ b = b0.ren ent := by
    intro k b hb
    rw [getB_bsL, if_pos (Nat.zero_le _), Nat.sub_zero, Option.map_eq_some_iff] at hb
    obtain ⟨b0, h0, rfl⟩ := hb
    exact ⟨b0, h0, rfl⟩
  have hnn : ∀ j, h (.n j) = none := fun j => dn.none rfl
  -- from a name here to the name there
  have dc : Den E ιc (hp h (bsL 0 bs)) w := by
    have back : ∀ i b, hp h (bsL 0 bs) i = some b → ∃ i0 b0, hpC h bs i0 = some b0 ∧ ιc i = ι i0 ∧ i = ent i0 := by
      intro i b hb
      cases i with
      | l k =>
        obtain ⟨b0, h0, _⟩ := hL k b hb
        exact ⟨.n k, b0, h0, rfl, rfl⟩
      | o i =>
        simp only [hp, Option.map_eq_some_iff] at hb
        obtain ⟨b0, h0, _⟩ := hb
        cases i with
        | n j => rw [hnn j] at h0; cases h0
        | o i => exact ⟨.o i, b0, h0, rfl, rfl⟩
        | l k => exact ⟨.l k, b0, h0, rfl, rfl⟩
      | n j => simp [hp] at hb
    constructor
    · exact d.kept
    · exact d.os
    · exact d.tape
    · exact d.output
    · intro i b hb
      cases i with
      | l k =>
        obtain ⟨b0, h0, rfl⟩ := hL k b hb
        exact BlkOk.ren' (id := .n k) (ι' := ιc) ent hent rfl (d.ok (.n k) b0 h0)
      | o i =>
        simp only [hp, Option.map_eq_some_iff] at hb
        obtain ⟨b0, h0, rfl⟩ := hb
        exact (dn.ok i b0 h0).ren' (ι' := ιc) .o (fun id g loc hh => hh) rfl
      | n j => simp [hp] at hb
    · intro i i' b b' k h1 h2 hne hk hk'
      obtain ⟨i0, b0, g1, g2, g3⟩ := back i b h1
      obtain ⟨i1, b1, k1, k2, k3⟩ := back i' b' h2
      refine d.apart i0 i1 b0 b1 k g1 k1 (fun e => hne (by rw [g3, k3, e])) ?_ ?_
      · unfold place at hk ⊢; rw [← g2]; exact hk
      · unfold place at hk' ⊢; rw [← k2]; exact hk'
    · intro i b k h1 hk
      obtain ⟨i0, b0, g1, g2, g3⟩ := back i b h1
      refine d.own i0 b0 k g1 ?_
      unfold place at hk ⊢; rw [← g2]; exact hk
  have hT : TOk E ιc (argT (renL ent args) 0) (vs ++ Array.replicate (fn.ntmps - vs.size) undef) := by
    intro t
    rw [get_argT, if_pos (Nat.zero_le _), Nat.sub_zero, renL_getD]
    by_cases ht : t < args.length
    · have := (hr t ht).ren' (ι' := ιc) ent hent
      have e : (vs ++ Array.replicate (fn.ntmps - vs.size) undef).getD t undef = vs.getD t undef := by
        have : t < vs.size := by omega
        simp [Array.getElem?_append_left this]
      rw [e]
      exact this
    · have : args.getD t .bot = .bot := by simp [List.getElem?_eq_none (Nat.le_of_not_lt ht)]
      rw [this]
      exact Rel.bot _
  obtain ⟨w', frm, v, s1, s2, s3, E', ι', r, h', N, p1, p2, p3, p4, p4n, p5, p6, ⟨rfl, p7⟩, ptr⟩ := hh (fun j => ι (.n j)) E ιc { tmps := vs ++ Array.replicate (fn.ntmps - vs.size) undef, defers := [] } w b cs rfl rfl rfl (by simp; omega) hT dc ⟨hnd, fun n hn => hno n (hfr n hn)⟩ ⟨fun _ => rfl, fun k p hk g loc hg => by
    obtain ⟨_, rfl⟩ := trkN_mem hk
    exact hg⟩
  rw [← henter] at s1
  refine ⟨.returned v, w', frm, ⟨v, rfl, ?_⟩, s1, s2, s3⟩
  have hon : ∀ j, ι' (.o (.n j)) = [] := fun j => p3 (.n j) rfl
  let ι2 : Io := fun i => match i with | .n j => ι' (.n j) | i => ι' (.o i)
  have e2 : ∀ i, (∀ j, i ≠ .n j) → ι2 i = ι' (.o i) := by
    intro i hi
    cases i with
    | n j => exact absurd rfl (hi j)
    | o i => rfl
    | l k => rfl
  have eN : ∀ i, (∀ j, i ≠ .n j) → ιc (.o i) = ι i := by
    intro i hi
    cases i with
    | n j => exact absurd rfl (hi j)
    | o i => rfl
    | l k => rfl
  have hren : ∀ (id : Id) (g : Nat) (loc : Loc), (ι' id)[g]? = some loc → (ι2 (down id))[g]? = some loc := by
    intro id g loc hh
    cases id with
    | o i =>
      show (ι2 i)[g]? = _
      cases i with
      | n j => rw [hon j] at hh; simp at hh
      | o i => exact hh
      | l k => exact hh
    | n j => exact hh
    | l k => rw [p4 k] at hh; simp at hh
  let up : Id → Id := fun i => match i with | .n j => .n j | i => .o i
  have up_down : ∀ i, down (up i) = i := fun i => by cases i <;> rfl
  have up_ι : ∀ i, ι2 i = ι' (up i) := fun i => by cases i <;> rfl
  have up_inj : ∀ i i', up i = up i' → i = i' := fun i i' e => by rw [← up_down i, e, up_down]
  have hup : ∀ i b, hpC h' (N.map (Blk.ren down)) i = some b → ∃ b0, hpN h' N (up i) = some b0 ∧ b = b0.ren down := by
    intro i b hb
    cases i with
    | n j =>
      simp only [hpC, List.getElem?_map, Option.map_eq_some_iff] at hb
      obtain ⟨b0, h0, rfl⟩ := hb
      exact ⟨b0, h0, rfl⟩
    | o i =>
      simp only [hpC] at hb
      refine ⟨b.ren .o, by simp [up, hpN, hb], ?_⟩
      rw [Blk.ren_ren]
      exact (Blk.ren_id _ (fun i => rfl) b).symm
    | l k =>
      simp only [hpC] at hb
      refine ⟨b.ren .o, by simp [up, hpN, hb], ?_⟩
      rw [Blk.ren_ren]
      exact (Blk.ren_id _ (fun i => rfl) b).symm
  refine ⟨E', ι2, r.ren down, N.map (Blk.ren down), p1, ?_, ?_, fun j hj => p4n j (by simpa using hj), ?_, p6.ren' down hren, p7, fun j hj g loc hg => ?_⟩
  · intro i g loc hi hh
    rw [e2 i hi]
    exact p2 i g loc (by rw [eN i hi]; exact hh)
  · intro i hi hne
    rw [e2 i hne]
    exact p3 i (by rw [eN i hne]; exact hi)
  · constructor
    · exact p5.kept
    · exact p5.os
    · exact p5.tape
    · exact p5.output
    · intro i b hb
      obtain ⟨b0, h0, rfl⟩ := hup i b hb
      have := (p5.ok (up i) b0 h0).ren' (ι' := ι2) down hren (by rw [up_down, up_ι])
      rw [up_down] at this
      exact this
    · intro i i' b b' k h1 h2 hne hk hk'
      obtain ⟨b0, h0, _⟩ := hup i b h1
      obtain ⟨b1, h1', _⟩ := hup i' b' h2
      refine p5.apart (up i) (up i') b0 b1 k h0 h1' (fun e => hne (up_inj _ _ e)) ?_ ?_
      · unfold place at hk ⊢; rw [← up_ι]; exact hk
      · unfold place at hk' ⊢; rw [← up_ι]; exact hk'
    · intro i b k h1 hk
      obtain ⟨b0, h0, _⟩ := hup i b h1
      refine p5.own (up i) b0 k h0 ?_
      unfold place at hk ⊢; rw [← up_ι]; exact hk
  · exact ptr j j (ι (.n j)) (by have := trkN_get (fun j => ι (.n j)) bs.length 0 j hj; simpa using this) g loc hg
section
variable {fid : FuncId} {fn : Func} {Kt : Trk} {Q : AV → Hp → List Blk → Prop} {h : Hp}
theorem OpRun.callI {ops : Array Oper} {i : Nat} {o : Oper} {c : Call} {x : Operand} {caps vs : List AV} {T : Tm} {L L' : Lh} {fr mv : List Nat} {bs : List Blk} {f : FuncId} {g : Func} {R : AV → Hp → Lh → List Nat → Prop} (ho : ops[i]? = some o) (hw : ∀ (E : Env) (ι : Io) (a : Act), TOk E ι T a.tmps → Region.wanted o (yielded ops a.tmps) = true)
    (hop : o.op = .call c) (hcal : c.callee = .value x) (hx : ev T x = some (.fn f caps)) (hvs : evs T c.args.toList = some vs) (hf : P.funcs[f]? = some g) (hname : (g.name == "runtime.NumGoroutine") = false) (hb : g.body.isSome = true)
    (hbs : selB L mv = some bs) (hnd : mv.Nodup) (hmf : ∀ k ∈ mv, k ∉ fr) (hL : leB L' L) (aL : avoidB (memN mv) L' = true)
    (hh : SemCI P f (renL (si mv) (vs ++ caps)) (bs.map (Blk.ren (si mv))) (hp h L') fun r N => (N.length ≤ (mv ++ fr).length ∧ mv.length ≤ N.length) ∧ R (r.ren (nu (mv ++ fr))) h (addN (nu (mv ++ fr)) (mv ++ fr) N (renB (nu (mv ++ fr)) L')) ((mv ++ fr).drop N.length)) : OpRun P ops i o T h L fr R := by
  intro E ι a w b cs is rest q5 q6 q7 q8
  obtain ⟨cv, hcv, hcl, hcr⟩ := rel_fn (ev_rel q5 hx)
  obtain ⟨hvl, hvr⟩ := evs_rel q5 hvs
  have hrun := run_call hop hcal hcv hf hname hb w
  have hg := stepG_op (P := P) (b := b) (k := rest) (cs := cs) (w := w) (rest := is) ho (hw E ι a q5)
  have henter : Go.step P (lone (b.at a (.inRegion ops (i :: is) :: rest)) cs w) = .next (lone (Frame.enter P f (c.args.map a.eval ++ cv) .normal) (b.at a (.inRegion ops (i :: is) :: rest) :: cs) w) :=
    step_lone_go (by rw [hg]; simp [stepG.apply, hrun, Frame.at])
  have hfin : ∀ v, (b.at a (.inRegion ops (i :: is) :: rest)).finish v = b.at (a.put o.dst v) (.inRegion ops is :: rest) := by
    intro v; rw [Frame.finish_at, ho]; rfl
  have hargs : ∀ i, i < (vs ++ caps).length → Rel E ι ((vs ++ caps).getD i .bot) ((c.args.map a.eval ++ cv).getD i undef) := by
    intro i hi
    have hvl' : vs.length = c.args.size := by simpa using hvl
    by_cases hiv : i < vs.length
    · have e1 : (vs ++ caps).getD i .bot = vs.getD i .bot := by simp [List.getElem?_append_left hiv]
      have e2 : (c.args.map a.eval ++ cv).getD i undef = (c.args.toList.map a.eval).getD i undef := by
        have : i < (c.args.map a.eval).size := by simp; omega
        simp [Array.getElem?_append_left this]
      rw [e1, e2]
      exact hvr i hiv
    · have e1 : (vs ++ caps).getD i .bot = caps.getD (i - vs.length) .bot := by simp [List.getElem?_append_right (Nat.le_of_not_lt hiv)]
      have e2 : (c.args.map a.eval ++ cv).getD i undef = cv.getD (i - vs.length) undef := by
        have : (c.args.map a.eval).size ≤ i := by simp; omega
        simp [Array.getElem?_append_right this, hvl']
      rw [e1, e2]
      exact hcr _ (by simp at hi; omega)
  obtain ⟨hbl, hsel⟩ := selB_get hbs
  -- the names while the call runs
  let ιm : Io := fun i => match i with
    | .n j => match mv[j]? with | some k => ι (.l k) | none => []
    | .l k => if memN mv k then [] else ι (.l k)
    | .o i => ι (.o i)
  have hren1 : ∀ (id : Id) (g : Nat) (loc : Loc), (ι id)[g]? = some loc → (ιm (si mv id))[g]? = some loc := by
    intro id g loc hx
    cases id with
    | o i => exact hx
    | n j => rw [q8 j] at hx; simp at hx
    | l k =>
      cases hj : idx mv k with
      | some j => simp only [si, hj, ιm, idx_some hj]; exact hx
      | none =>
        have hm : memN mv k = false := by
          cases hm : memN mv k with
          | false => rfl
          | true => obtain ⟨j, hj'⟩ := idx_mem (memN_mem _ _ hm); rw [hj] at hj'; cases hj'
        simp only [si, hj, ιm, hm]; exact hx
  have hrenL : ∀ (id : Id) (g : Nat) (loc : Loc), (∀ k, id = .l k → memN mv k = false) → (ι id)[g]? = some loc → (noN ιm id)[g]? = some loc := by
    intro id g loc hp hx
    cases id with
    | o i => exact hx
    | n j => rw [q8 j] at hx; simp at hx
    | l k => simp only [noN, ιm, hp k rfl]; exact hx
  have oav : ∀ b0 : Blk, (b0.ren .o).avoid (memN mv) = true := by
    have key : ∀ a : AV, (a.ren .o).avoid (memN mv) = true := fun a =>
      AV.rec (motive_1 := fun a => (a.ren .o).avoid (memN mv) = true) (motive_2 := fun l => avoidL (memN mv) (renL .o l) = true) rfl (fun _ => rfl) (fun _ h => h) (fun _ h => h) (fun _ _ h => h) (fun _ _ => rfl) (fun _ _ _ _ _ => rfl) (fun _ _ _ _ _ => rfl) (fun _ _ _ _ _ _ => rfl) (fun _ _ _ _ _ => rfl) rfl (fun _ _ h1 h2 => by simp only [renL, avoidL, h1, h2]; rfl) a
    intro b0
    cases b0 with
    | obj cs =>
      simp only [Blk.ren, Blk.avoid]
      induction cs with
      | nil => rfl
      | cons c cs ih => simp only [renL, avoidL, key c, ih]; rfl
    | arr => rfl
  have dn : Den E (noN ιm) (hp h L') w := by
    refine q6.rename (fun i => i) (fun i b hb => ?_) (fun _ _ _ _ _ _ e => e)
    cases i with
    | l k =>
      have hb' := leB_get hL k b hb
      obtain ⟨q1, q2⟩ := avoidB_get _ _ _ _ aL hb
      have e : noN ιm (.l k) = ι (.l k) := by simp only [noN, ιm, q1]; rfl
      refine ⟨b, hb', e, ?_⟩
      have := BlkOk.ren (id := .l k) (ι' := noN ιm) (fun i => i) (memN mv) hrenL q2 e (q6.ok (.l k) b hb')
      rwa [Blk.ren_id _ (fun _ => rfl)] at this
    | o i =>
      refine ⟨b, hb, rfl, ?_⟩
      have hb' := hb
      simp only [hp, Option.map_eq_some_iff] at hb'
      obtain ⟨b0, hb0, rfl⟩ := hb'
      have := (q6.ok (.o i) _ hb).ren (ι' := noN ιm) (fun i => i) (memN mv) hrenL (oav b0) rfl
      rwa [Blk.ren_id _ (fun _ => rfl)] at this
    | n j => simp [hp] at hb
  have dm : Den E ιm (hpC (hp h L') (bs.map (Blk.ren (si mv)))) w := by
    refine q6.rename (fun i => match i with | .n j => .l (mv.getD j 0) | i => i) (fun i b hb => ?_) (fun i i' b b' hb hb' e => ?_)
    · cases i with
      | n j =>
        simp only [hpC, List.getElem?_map, Option.map_eq_some_iff] at hb
        obtain ⟨b0, hb0, rfl⟩ := hb
        obtain ⟨k, hk1, hk2⟩ := hsel j b0 hb0
        have e : mv.getD j 0 = k := by simp [hk1]
        refine ⟨b0, by simp only [e]; exact hk2, by simp only [ιm, hk1, e], ?_⟩
        have hj := idx_nodup hnd hk1
        have := BlkOk.ren' (id := .l k) (ι' := ιm) (si mv) hren1 (by simp only [si, hj, ιm, hk1]) (q6.ok (.l k) b0 hk2)
        simp only [si, hj] at this
        exact this
      | o i =>
        have hb' : hp h L' (.o i) = some b := hb
        have := dn.ok (.o i) b hb'
        refine ⟨b, hb', rfl, ?_⟩
        have h3 := BlkOk.ren' (ι := noN ιm) (ι' := ιm) (fun i => i) (fun id g loc x => by
          cases id with
          | n j => exact absurd x (by show ¬ (([] : List Loc)[g]? = some loc); simp)
          | o i => exact x
          | l k => exact x) rfl this
        rwa [Blk.ren_id _ (fun _ => rfl)] at h3
      | l k =>
        have hb' : hp h L' (.l k) = some b := hb
        have hb0 := leB_get hL k b hb'
        obtain ⟨q1, q2⟩ := avoidB_get _ _ _ _ aL hb'
        have := dn.ok (.l k) b hb'
        refine ⟨b, hb0, by simp only [ιm, q1]; rfl, ?_⟩
        have h3 := BlkOk.ren' (ι := noN ιm) (ι' := ιm) (fun i => i) (fun id g loc x => by
          cases id with
          | n j => exact absurd x (by show ¬ (([] : List Loc)[g]? = some loc); simp)
          | o i => exact x
          | l k => exact x) rfl this
        rwa [Blk.ren_id _ (fun _ => rfl)] at h3
    · have inmv : ∀ j b, hpC (hp h L') (bs.map (Blk.ren (si mv))) (.n j) = some b → ∃ k, mv[j]? = some k ∧ mv.getD j 0 = k := by
        intro j b hb
        simp only [hpC, List.getElem?_map, Option.map_eq_some_iff] at hb
        obtain ⟨b0, hb0, _⟩ := hb
        obtain ⟨k, hk1, _⟩ := hsel j b0 hb0
        exact ⟨k, hk1, by simp [hk1]⟩
      have notmv : ∀ k b, hpC (hp h L') (bs.map (Blk.ren (si mv))) (.l k) = some b → memN mv k = false := fun k b hb => (avoidB_get _ _ _ _ aL hb).1
      cases i with
      | n j =>
        obtain ⟨k, hk1, hk2⟩ := inmv j b hb
        cases i' with
        | n j' =>
          obtain ⟨k', hk1', hk2'⟩ := inmv j' b' hb'
          replace e := Id.l.inj e
          rw [hk2, hk2'] at e
          subst e
          have h1 := idx_nodup hnd hk1
          rw [idx_nodup hnd hk1'] at h1
          cases h1
          rfl
        | o i' => cases e
        | l k' =>
          exfalso
          have := notmv k' b' hb'
          replace e := Id.l.inj e
          rw [hk2] at e
          subst e
          rw [mem_memN (List.mem_of_getElem? hk1)] at this
          cases this
      | o i =>
        cases i' with
        | n j' => cases e
        | o i' => exact e
        | l k' => cases e
      | l k =>
        cases i' with
        | n j' =>
          exfalso
          obtain ⟨k', hk1', hk2'⟩ := inmv j' b' hb'
          have := notmv k b hb
          replace e := Id.l.inj e
          rw [hk2'] at e
          subst e
          rw [mem_memN (List.mem_of_getElem? hk1')] at this
          cases this
        | o i' => cases e
        | l k' => exact e
  obtain ⟨e, w1, frm1, ⟨v, rfl, E', ι', r, N, p1, p2, p3, p3n, p4, p5, ⟨⟨hN, hmN⟩, hW⟩, pt⟩, s1, s2, s3⟩ := hh E ιm (c.args.map a.eval ++ cv) w dm dn (fun j hj => by
      have : mv[j]? = none := List.getElem?_eq_none (by rw [← hbl]; simpa using hj)
      simp only [ιm, this]) (by rw [renL_length]; simp at hvl ⊢; omega) (fun i hi => by
      rw [renL_getD]
      rw [renL_length] at hi
      exact (hargs i hi).ren' (si mv) hren1) (b.at a (.inRegion ops (i :: is) :: rest) :: cs)
  have hndA : (mv ++ fr).Nodup := List.nodup_append.2 ⟨hnd, q7.1, fun x hx y hy e => hmf x hx (e ▸ hy)⟩
  let fr' := (mv ++ fr).take N.length
  have hfr' : ∀ j, j < N.length → fr'[j]? = some ((mv ++ fr).getD j 0) := by
    intro j hj
    have : j < (mv ++ fr).length := by omega
    simp only [fr', List.getElem?_take_of_lt hj, List.getD_eq_getElem?_getD, List.getElem?_eq_getElem this, Option.getD_some]
  have hnd' : fr'.Nodup := (List.take_sublist _ _).nodup hndA
  let ι2 : Io := fun i => match i with
    | .l k => match idx fr' k with | some j => ι' (.n j) | none => if memN mv k then ι (.l k) else ι' (.l k)
    | .o i => ι' (.o i)
    | .n _ => []
  have inmem : ∀ {k j : Nat}, idx fr' k = some j → k ∈ mv ++ fr := fun hj => List.mem_of_mem_take (List.mem_of_getElem? (idx_some hj))
  have mfr : ∀ k, k ∈ fr → memN mv k = false := fun k hk => by
    cases hm : memN mv k with
    | false => rfl
    | true => exact absurd hk (hmf k (memN_mem _ _ hm))
  have old : ∀ k, k ∈ fr → ι' (.l k) = [] := fun k hk => p3 (.l k) (by simp only [ιm, mfr k hk]; exact q7.2 k hk) (by simp)
  have old2 : ∀ k, k ∈ mv ++ fr → ι' (.l k) = [] := fun k hk => by
    rcases List.mem_append.1 hk with h1 | h1
    · exact p3 (.l k) (by simp only [ιm, mem_memN h1]; rfl) (by simp)
    · exact old k h1
  have hren : ∀ (id : Id) (g : Nat) (loc : Loc), (ι' id)[g]? = some loc → (ι2 (nu (mv ++ fr) id))[g]? = some loc := by
    intro id g loc hx
    cases id with
    | o i => exact hx
    | n j =>
      by_cases hj : j < N.length
      · show (ι2 (.l ((mv ++ fr).getD j 0)))[g]? = _
        simp only [ι2, idx_nodup hnd' (hfr' j hj)]
        exact hx
      · rw [p3n j (by omega)] at hx; simp at hx
    | l k =>
      show (ι2 (.l k))[g]? = _
      cases hk : idx fr' k with
      | some j => rw [old2 k (inmem hk)] at hx; simp at hx
      | none =>
        cases hm : memN mv k with
        | true =>
          have : ι' (.l k) = [] := p3 (.l k) (by simp only [ιm, hm]; rfl) (by simp)
          rw [this] at hx; simp at hx
        | false => simp only [ι2, hk, hm]; exact hx
  have hle : ∀ (id : Id) (g : Nat) (loc : Loc), (ι id)[g]? = some loc → (ι2 id)[g]? = some loc := by
    intro id g loc hx
    cases id with
    | o i => exact p2 (.o i) _ _ (by simp) hx
    | n j => rw [q8 j] at hx; simp at hx
    | l k =>
      cases hk : idx fr' k with
      | some j =>
        rcases List.mem_append.1 (inmem hk) with h1 | h1
        · have hj := idx_some hk
          obtain ⟨j0, hj0⟩ := List.getElem?_of_mem h1
          have hj0l : j0 < mv.length := (List.getElem?_eq_some_iff.1 hj0).1
          have hj0' : fr'[j0]? = some k := by
            simp only [fr', List.getElem?_take_of_lt (Nat.lt_of_lt_of_le hj0l hmN)]
            rw [List.getElem?_append_left hj0l]
            exact hj0
          have e1 := idx_nodup hnd' hj0'
          rw [hk] at e1
          cases e1
          simp only [ι2, hk]
          refine pt j (by simp only [List.length_map, hbl]; exact hj0l) g loc ?_
          simp only [ιm, hj0]
          exact hx
        · rw [q7.2 k h1] at hx; simp at hx
      | none =>
        cases hm : memN mv k with
        | true => simp only [ι2, hk, hm]; exact hx
        | false => simp only [ι2, hk, hm]; exact p2 (.l k) _ _ (by simp) (by simp only [ιm, hm]; exact hx)
  have hD : Den E' ι2 (hp h (addN (nu (mv ++ fr)) (mv ++ fr) N (renB (nu (mv ++ fr)) L'))) w1 := by
    refine p4.rename (fun i => match i with | .l k => (match idx fr' k with | some j => .n j | none => .l k) | i => i) (fun i b hb => ?_) (fun i i' b b' hb hb' e => ?_)
    · cases i with
      | l k =>
        simp only [hp, getB_addN _ _ _ _ _ hN] at hb
        cases hk : idx fr' k with
        | some j =>
          have hk' : idx (List.take N.length (mv ++ fr)) k = some j := hk
          simp only [hk', Option.map_eq_some_iff] at hb
          obtain ⟨b0, hb0, rfl⟩ := hb
          have hj : j < N.length := (List.getElem?_eq_some_iff.1 hb0).1
          have hkj : (mv ++ fr).getD j 0 = k := by
            have := idx_some hk
            rw [hfr' j hj] at this
            exact Option.some.inj this
          refine ⟨b0, by simp only [hk]; exact hb0, by simp only [ι2, hk], ?_⟩
          have := BlkOk.ren' (id := .n j) (ι' := ι2) (nu (mv ++ fr)) hren (by simp only [nu, hkj, ι2, hk]) (p4.ok (.n j) b0 hb0)
          simp only [nu, hkj] at this
          exact this
        | none =>
          have hk' : idx (List.take N.length (mv ++ fr)) k = none := hk
          simp only [hk', getB_renB, Option.map_eq_some_iff] at hb
          obtain ⟨b0, hb0, rfl⟩ := hb
          have hm := (avoidB_get _ _ _ _ aL hb0).1
          refine ⟨b0, by simp only [hk]; exact hb0, by simp only [ι2, hk, hm]; rfl, ?_⟩
          exact BlkOk.ren' (id := .l k) (ι' := ι2) (nu (mv ++ fr)) hren (by simp only [nu, ι2, hk, hm]; rfl) (p4.ok (.l k) b0 hb0)
      | o i =>
        refine ⟨b, hb, rfl, ?_⟩
        have hb' := hb
        simp only [hp, Option.map_eq_some_iff] at hb'
        obtain ⟨b0, hb0, rfl⟩ := hb'
        have := BlkOk.ren' (id := .o i) (ι' := ι2) (nu (mv ++ fr)) hren rfl (p4.ok (.o i) _ hb)
        rw [Blk.ren_ren] at this
        exact this
      | n j => simp [hp] at hb
    · cases i with
      | l k =>
        cases i' with
        | l k' =>
          dsimp only at e
          cases hk : idx fr' k with
          | some j =>
            cases hk' : idx fr' k' with
            | some j' =>
              rw [hk, hk'] at e
              cases e
              have := idx_some hk
              rw [idx_some hk'] at this
              cases this
              rfl
            | none => rw [hk, hk'] at e; cases e
          | none =>
            cases hk' : idx fr' k' with
            | some j' => rw [hk, hk'] at e; cases e
            | none => rw [hk, hk'] at e; exact e
        | o i' =>
          dsimp only at e
          cases hk : idx fr' k <;> rw [hk] at e <;> cases e
        | n j => simp [hp] at hb'
      | o i =>
        cases i' with
        | l k' =>
          dsimp only at e
          cases hk : idx fr' k' <;> rw [hk] at e <;> cases e
        | o i' => exact e
        | n j => simp [hp] at hb'
      | n j => simp [hp] at hb
  refine ⟨v, w1, E', ι2, r.ren (nu (mv ++ fr)), h, _, (mv ++ fr).drop N.length, .head henter (Steps.trans s1 (.one ?_)), p1, hle, fun i x => p3 (.o i) x (by simp), hD, p5.ren' (nu (mv ++ fr)) hren, ⟨(List.drop_sublist _ _).nodup hndA, fun k hk => by
    have hnot : idx fr' k = none := by
      cases hx : idx fr' k with
      | none => rfl
      | some j =>
        exfalso
        have h1 : k ∈ fr' := List.mem_of_getElem? (idx_some hx)
        have := List.nodup_append.1 (by rw [List.take_append_drop]; exact hndA : ((mv ++ fr).take N.length ++ (mv ++ fr).drop N.length).Nodup)
        exact this.2.2 k h1 k hk rfl
    have hkf : k ∈ fr := by
      rw [List.drop_append] at hk
      rcases List.mem_append.1 hk with h1 | h1
      · rw [List.drop_eq_nil_of_le hmN] at h1; cases h1
      · exact List.mem_of_mem_drop h1
    simp only [ι2, hnot, mfr k hkf]
    exact old k hkf⟩, fun _ => rfl, hW⟩
  rw [← hfin]; exact step_leave_returned s3
theorem SemW.callI {ks ks' : List Item} {T : Tm} {L : Lh} {fr : List Nat} {f : FuncId} {args : List AV} {d : Nat} {g : Func} (mv : List Nat) (L' : Lh) {bs : List Blk} (hc : callOf ks T = some (f, args, d, ks')) (hd : Nat.blt d fn.ntmps = true) (hf : P.funcs[f]? = some g) (hname : (g.name == "runtime.NumGoroutine") = false) (hb : g.body.isSome = true)
    (hbs : selB L mv = some bs) (hnd : mv.Nodup) (hmf : ∀ k ∈ mv, k ∉ fr) (hL : leB L' L) (aL : avoidB (memN mv) L' = true)
    (hh : SemCI P f (renL (si mv) args) (bs.map (Blk.ren (si mv))) (hp h L') fun r N => (N.length ≤ (mv ++ fr).length ∧ mv.length ≤ N.length) ∧ SemW P fid fn Kt Q h ks' ((d, r.ren (nu (mv ++ fr))) :: T) (addN (nu (mv ++ fr)) (mv ++ fr) N (renB (nu (mv ++ fr)) L')) ((mv ++ fr).drop N.length)) : SemW P fid fn Kt Q h ks T L fr := by
  obtain ⟨ops, i, is, rest, o, c, x, caps, vs, rfl, rfl, ho, hw, hop, hcal, hx, hvs, rfl, hdst⟩ := callOf_some hc
  refine SemW.run1 (fun _ _ _ h => h) (fun d' hd' => by rw [hdst] at hd'; cases hd'; exact Nat.blt_eq.mp hd) (OpRun.callI ho hw hop hcal hx hvs hf hname hb hbs hnd hmf hL aL ?_)
  rw [hdst]
  exact hh
/-- .. what is left is what is not handed over -/
theorem SemW.callP (mv : List Nat) {ks ks' : List Item} {T : Tm} {L : Lh} {fr : List Nat} {f : FuncId} {args : List AV} {d : Nat} {g : Func} {bs : List Blk} (hc : callOf ks T = some (f, args, d, ks')) (hd : Nat.blt d fn.ntmps = true) (hf : P.funcs[f]? = some g) (hname : (g.name == "runtime.NumGoroutine") = false) (hb : g.body.isSome = true)
    (hbs : selB L mv = some bs) (hnd : mv.Nodup) (hmf : (mv.all fun k => !(memN fr k)) = true) (aL : avoidB (memN mv) (selBs L (minusN (keysB L []) mv)) = true)
    (hh : SemCI P f (renL (si mv) args) (bs.map (Blk.ren (si mv))) (hp h (selBs L (minusN (keysB L []) mv))) fun r N => (N.length ≤ (mv ++ fr).length ∧ mv.length ≤ N.length) ∧ SemW P fid fn Kt Q h ks' ((d, r.ren (nu (mv ++ fr))) :: T) (addN (nu (mv ++ fr)) (mv ++ fr) N (renB (nu (mv ++ fr)) (selBs L (minusN (keysB L []) mv)))) ((mv ++ fr).drop N.length)) : SemW P fid fn Kt Q h ks T L fr := by
  have key : ∀ l, leB (selBs L l) L := by
    intro l
    induction l with
    | nil => trivial
    | cons q l ih =>
      simp only [selBs]
      split
      · rename_i c hc; exact ⟨hc, ih⟩
      · exact ih
  exact SemW.callI mv _ hc hd hf hname hb hbs hnd (fun k hk => not_memN (by have := List.all_eq_true.1 hmf k hk; simpa using this)) (key _) aL hh
end
end Go.AM
set_option linter.unusedVariables false
set_option linter.unusedSimpArgs false
namespace Go.AM
variable {P : Program}
/-- a place's two cells -/
def cellsPv (p : Pl) : List Value := [.int .i64 p.node, .int .u64 p.serial]
theorem Den.grow {E : Env} {ι : Io} {h : Hp} {w : World} (d : Den E ι h w) (os : Array Obj) : Den E ι h (Go.Sort.grow w os) := by
  have hp : ∀ k, k < w.heap.size → (Go.Sort.grow w os).heap[k]? = w.heap[k]? := fun k hk => by
    show (w.heap ++ os)[k]? = _
    rw [Array.getElem?_append_left hk]
  exact ⟨fun k hk => ⟨(hp k (d.keep_lt hk)).trans (d.kept k hk).1, (d.kept k hk).2⟩, d.os, d.tape, d.output, fun i b hb => (d.ok i b hb).mono (Env.le.refl E) (Io.le.refl ι) rfl (fun k hk => hp k (d.lt hb hk)), d.apart, d.own⟩
theorem rel_int1 {E : Env} {x v : Value} (h : RelF E (.val x) v) : v = x := by cases h; rfl
/-- a row of places as the sort's contracts tell it -/
theorem holds_row {E : Env} {ι : Io} {w : World} {id : Id} {g : Nat} {l : List Pl} (hb : BlkOk E ι w id (.arr true g 2 l.length (fun i => encP (l.getD i ⟨0, 0⟩)))) {loc : Loc} (hloc : (ι id)[g]? = some loc) (hn : loc.nil = false) :
    Go.Sort.HoldsK cellsPv 2 w loc.blk loc.base l.toArray ∧ loc.blk < w.heap.size := by
  obtain ⟨_, loc', m1, m2, m3, m4⟩ := hb
  rw [hloc] at m2
  cases m2
  obtain ⟨us, c1, c2, c3, c4⟩ := m4 hn
  refine ⟨fun t ht => ?_, c1.lt⟩
  have hsz : (Go.Sort.flatK cellsPv 2 l.toArray).size = l.length * 2 := by simp [Go.Sort.flatK]
  have ht' : t < l.length * 2 := by rw [hsz] at ht; exact ht
  have hi : t / 2 < l.length := by omega
  have hj : t % 2 < 2 := by omega
  have hlt : loc.base + t < us.size := by omega
  have e1 : loc.base + (t / 2) * 2 + t % 2 = loc.base + t := by omega
  have h4 := (c4 (t / 2) (t % 2) hi hj).2
  rw [e1] at h4
  have hx : us.getD (loc.base + t) undef = (cellsPv (l.getD (t / 2) ⟨0, 0⟩))[t % 2]! := by
    have : t % 2 = 0 ∨ t % 2 = 1 := by omega
    rcases this with e | e
    · rw [e] at h4 ⊢
      exact rel_int1 h4
    · rw [e] at h4 ⊢
      exact rel_int1 h4
  refine ⟨?_, c1.frozen hlt⟩
  rw [c1.cell hlt, hx]
  congr 1
  have hl2 : t < l.toArray.size * 2 := by simpa using ht'
  have := Go.Sort.get_flatK cellsPv 2 l.toArray t hl2
  show _ = _root_.id _
  rw [_root_.id, this]
  congr 2
  simp [hi]
theorem row_holds {E : Env} {ι : Io} {w : World} {id : Id} {g : Nat} {l l' : List Pl} (hb : BlkOk E ι w id (.arr true g 2 l.length (fun i => encP (l.getD i ⟨0, 0⟩)))) {loc : Loc} (hloc : (ι id)[g]? = some loc) (hn : loc.nil = false) (hl : l'.length = l.length) (m : Nat) :
    BlkOk E ι (Go.Sort.putRowK cellsPv 2 (Go.Sort.ahead w m) loc.blk loc.base l'.toArray) id (.arr true g 2 l'.length (fun i => encP (l'.getD i ⟨0, 0⟩))) := by
  obtain ⟨hH, hlt⟩ := holds_row hb hloc hn
  obtain ⟨k0, loc', m1, m2, m3, m4⟩ := hb
  have m2' := m2
  rw [hloc] at m2
  cases m2
  obtain ⟨us, c1, c2, c3, c4⟩ := m4 hn
  obtain ⟨t, fr, g1, g2⟩ := c1
  have hH' : Go.Sort.HoldsK cellsPv 2 (Go.Sort.putRowK cellsPv 2 (Go.Sort.ahead w m) loc.blk loc.base l'.toArray) loc.blk loc.base l'.toArray := Go.Sort.holdsK_putRowK cellsPv 2 (Go.Sort.ahead w m) loc.blk loc.base l.toArray l'.toArray (Go.Sort.holdsK_ahead cellsPv 2 w m _ _ _ hH) (by simp [hl])
  have hcells : Cells (Go.Sort.putRowK cellsPv 2 (Go.Sort.ahead w m) loc.blk loc.base l'.toArray) loc.blk (Go.Sort.putCells _root_.id loc.base (Go.Sort.flatK cellsPv 2 l'.toArray) us) := by
    refine ⟨t, fr, ?_, fun i hi => g2 i (by simpa [Go.Sort.putCells] using hi)⟩
    show (w.heap.modify loc.blk (Go.Sort.onCells _))[loc.blk]? = _
    rw [Array.getElem?_modify, if_pos rfl, g1]
    rfl
  refine ⟨fun i hi => ⟨rfl, rfl⟩, loc, m1, m2', fun h => (by rw [h] at hn; cases hn), fun _ => ⟨_, hcells, by simpa [Go.Sort.putCells] using c2, by rw [hl]; exact c3, fun i j hi hj => ?_⟩⟩
  have hij : loc.base + i * 2 + j < (Go.Sort.putCells _root_.id loc.base (Go.Sort.flatK cellsPv 2 l'.toArray) us).size := by
    have : (Go.Sort.putCells _root_.id loc.base (Go.Sort.flatK cellsPv 2 l'.toArray) us).size = us.size := by simp [Go.Sort.putCells]
    rw [this]
    omega
  have hc := (Go.Sort.HoldsK.cell hH' (i := i) (c := j) (by simpa using hi) hj).1
  rw [hcells.cell hij] at hc
  have hc' := Option.some.inj hc
  have hg : l'.toArray[i]! = l'.getD i ⟨0, 0⟩ := by simp [hi]
  rw [hg] at hc'
  rw [hc']
  have : j = 0 ∨ j = 1 := by omega
  rcases this with rfl | rfl
  · exact ⟨rfl, .val _ rfl⟩
  · exact ⟨rfl, .val _ rfl⟩
/-- A sort of places in a row of one's own. -/
theorem SemCI.sortP {f cf : FuncId} {h : Hp} {Q : AV → List Blk → Prop} (lt : Pl → Pl → Bool) (l : List Pl) (g cp : Nat) (hl : l.length < 2^60)
    (hs : ∀ (blk off cap : Nat) (d : Array Pl) (w : World), Go.Sort.HoldsK cellsPv 2 w blk off d → blk < w.heap.size → d.size < 4611686018427387904 → Calls P f #[.slice (some ⟨blk, off, none⟩) d.size cap, .func (.func cf) #[] #[]] w fun e w' =>
      e = .returned (.tuple #[]) ∧ ∃ d' n os, Go.Sort.PermIn 0 d.size d d' ∧ Go.Sort.SortedIn lt 0 d.size d' ∧ w' = Go.Proofs.sortWorldK cellsPv 2 w blk off n d' os)
    (h0 : ∀ (a : Option Addr) (cap : Nat) (w : World), Calls P f #[.slice a 0 cap, .func (.func cf) #[] #[]] w fun e w' => e = .returned (.tuple #[]) ∧ w' = w)
    (hQ : ∀ l' : List Pl, l'.Perm l → (∀ i j, i < j → j < l'.length → lt (l'.getD j ⟨0, 0⟩) (l'.getD i ⟨0, 0⟩) = false) → Q (.tup []) [.arr true g 2 l'.length (fun i => encP (l'.getD i ⟨0, 0⟩))]) :
    SemCI P f [.sl (.n 0) g 2 0 l.length cp, .fn cf []] [.arr true g 2 l.length (fun i => encP (l.getD i ⟨0, 0⟩))] h Q := by
  intro E ι vs w d dn hno hl2 hr
  have hv0 := hr 0 (by simp)
  have hv1 := hr 1 (by simp)
  obtain ⟨vs⟩ := vs
  obtain ⟨v0, v1, rfl⟩ : ∃ v0 v1, vs = [v0, v1] := by
    simp at hl2
    match vs, hl2 with
    | [a, b], _ => exact ⟨a, b, rfl⟩
  obtain ⟨cv, e1, hcl, _⟩ := rel_fn (f := cf) (cs := []) hv1
  have hcv : cv = #[] := by
    have : cv.size = 0 := hcl.symm
    simpa using this
  subst hcv
  obtain ⟨loc, a, cap, k1, e0, hk⟩ := rel_sl (len := l.length) hv0
  have e0' : v0 = .slice a l.length cap := e0
  have e1' : v1 = .func (.func cf) #[] #[] := e1
  subst e0' e1'
  have hb : hpC h [.arr true g 2 l.length (fun i => encP (l.getD i ⟨0, 0⟩))] (.n 0) = some (.arr true g 2 l.length (fun i => encP (l.getD i ⟨0, 0⟩))) := rfl
  have hok := d.ok (.n 0) _ hb
  by_cases hn : loc.nil = true ∨ l.length = 0
  · have hz : l.length = 0 := by
      rcases hn with hn | hn
      · rcases hk with hk | hk
        · exact hk.1
        · rw [hk.1] at hn; cases hn
      · exact hn
    have hl0 : l = [] := by simpa using hz
    subst hl0
    refine (h0 a cap w).mono fun e w' he => ?_
    obtain ⟨rfl, rfl⟩ := he
    exact ⟨_, rfl, E, ι, .tup [], _, Env.le.refl E, fun _ _ _ _ x => x, fun _ x _ => x, hno, d, .F (.tup [] #[] rfl (fun i hi => by simp at hi)), hQ [] (List.Perm.refl _) (fun i j _ hj => by simp at hj), fun _ _ _ _ x => x⟩
  · have hn' : loc.nil = false := by
      cases hx : loc.nil with
      | true => exact absurd (.inl hx) hn
      | false => rfl
    obtain ⟨_, _, _, _, rfl⟩ : loc.nil = false ∧ l.length ≤ cp ∧ cp ≤ cap ∧ loc.base + (0 + cap) * 2 ≤ loc.size ∧ a = some ⟨loc.blk, loc.base + 0 * 2, none⟩ := by
      rcases hk with hk | hk
      · exact absurd (.inr hk.1) hn
      · exact hk
    obtain ⟨hH, hlt⟩ := holds_row hok k1 hn'
    have hc := hs loc.blk loc.base cap l.toArray w hH hlt (by simp; omega)
    have es : l.toArray.size = l.length := by simp
    rw [es] at hc
    refine (hc.mono fun e w' he => ?_)
    obtain ⟨rfl, d', n, os, hp, hsd, rfl⟩ := he
    obtain ⟨p1, p2, p3⟩ := hp
    have hl' : d'.toList.length = l.length := by simpa using p1
    have hperm : d'.toList.Perm l := by
      have q1 : (d'.extract 0 l.length).toList = d'.toList := by
        rw [← hl']
        simp
      have q2 : (l.toArray.extract 0 l.length).toList = l := by simp
      rw [q1, q2] at p3
      exact p3
    have hput := row_holds (l' := d'.toList) hok k1 hn' hl' n
    have ed : d'.toList.toArray = d' := by simp
    rw [ed] at hput
    have hplace : place ι (.n 0) = some loc.blk := by
      obtain ⟨_, loc', m1, m2, _, _⟩ := hok
      rw [k1] at m2
      cases m2
      unfold place
      rw [List.getLast?_eq_getElem?, m1]
      simp [k1, hn']
    have d1 := (d.put hb (w' := Go.Sort.putRowK cellsPv 2 (Go.Sort.ahead w n) loc.blk loc.base d') (fun k hk => by
      show (w.heap.modify loc.blk _)[k]? = _
      rw [Array.getElem?_modify, if_neg (fun e => hk (by rw [hplace, e]))]) rfl rfl rfl hput).grow os
    have hup : upd (hpC h [.arr true g 2 l.length (fun i => encP (l.getD i ⟨0, 0⟩))]) (.n 0) (.arr true g 2 d'.toList.length (fun i => encP (d'.toList.getD i ⟨0, 0⟩))) = hpC h [.arr true g 2 d'.toList.length (fun i => encP (d'.toList.getD i ⟨0, 0⟩))] := by
      funext i
      unfold upd
      cases i with
      | n j =>
        cases j with
        | zero => rfl
        | succ j =>
          rw [if_neg (by simp)]
          rfl
      | o i => rw [if_neg (by simp)]; rfl
      | l k => rw [if_neg (by simp)]; rfl
    rw [hup] at d1
    refine ⟨_, rfl, E, ι, .tup [], [.arr true g 2 d'.toList.length (fun i => encP (d'.toList.getD i ⟨0, 0⟩))], Env.le.refl E, fun _ _ _ _ x => x, fun _ x _ => x, hno, d1, .F (.tup [] #[] rfl (fun i hi => by simp at hi)), hQ d'.toList hperm (fun i j hij hj => ?_), fun _ _ _ _ x => x⟩
    have hj' : j < d'.size := by simpa using hj
    have := hsd i j (Nat.zero_le _) hij (by rw [← hl']; exact hj)
    have ei : d'[i]! = d'.toList.getD i ⟨0, 0⟩ := by
      have : i < d'.size := by omega
      simp [this]
    have ej : d'[j]! = d'.toList.getD j ⟨0, 0⟩ := by simp [hj']
    rw [ei, ej] at this
    exact this
end Go.AM
set_option linter.unusedVariables false
set_option linter.unusedSimpArgs false
open Go Go.AM
namespace Go.Proofs.Try
set_option maxRecDepth 100000
/-- how the closure compares -/
def cmpPl (x y : Pl) : Int := Go.Lib.compareInt x.node y.node
theorem ltPl (x y : Pl) : Go.Proofs.ltOf cmpPl x y = decide (x.node < y.node) := by
  unfold Go.Proofs.ltOf cmpPl Go.Lib.compareInt
  by_cases h1 : x.node < y.node
  · simp [h1]
  · by_cases h2 : y.node < x.node <;> simp [h1, h2]
theorem swoPl : Go.Sort.SWO (Go.Proofs.ltOf cmpPl) where
  irrefl x := by rw [ltPl]; simp
  trans x y z h1 h2 := by rw [ltPl] at *; simp at *; omega
  ntrans x y z h1 h2 := by rw [ltPl] at *; simp at *; omega
set_option maxHeartbeats 1000000 in
theorem closureCmp (x y : Pl) (W : World) : Calls Try.prog 143 #[.agg #[.int .i64 x.node, .int .u64 x.serial], .agg #[.int .i64 y.node, .int .u64 y.serial]] W fun e w' => e = .returned (.int .i64 (cmpPl x y)) ∧ ∃ q os', w' = Go.Sort.grow (W.drewN q) os' := by
  have hcon := fun W' => Go.Proofs.AnyG.cmp_Compare_int Go.Proofs.Try.cmpInt x.node y.node W'
  change ∀ W', Calls Try.prog 144 _ _ _ at hcon
  unfold cmpPl
  generalize Go.Lib.compareInt x.node y.node = r at hcon ⊢
  go_enter Try.func143, Try.ntmps143
  go_wp2_with (go_at_call 144; refine (hcon _).mono ?_; rintro e w' ⟨rfl, rfl⟩)
  go_ret
  exact ⟨rfl, 0, _, by rw [Go.Sort.alloc_eq_grow, Go.Sort.alloc_eq_grow, Go.Sort.grow_grow]; rfl⟩
theorem sortFunc_spec (l : List Pl) (g cp : Nat) (h : Hp) (Q : AV → List Blk → Prop) (hl : l.length < 2^60)
    (hQ : ∀ l' : List Pl, l'.Perm l → (∀ i j, i < j → j < l'.length → ¬ (l'.getD j ⟨0, 0⟩).node < (l'.getD i ⟨0, 0⟩).node) → Q (.tup []) [.arr true g 2 l'.length (fun i => encP (l'.getD i ⟨0, 0⟩))]) :
    SemCI Try.prog 142 [.sl (.n 0) g 2 0 l.length cp, .fn 143 []] [.arr true g 2 l.length (fun i => encP (l.getD i ⟨0, 0⟩))] h Q := by
  refine SemCI.sortP (Go.Proofs.ltOf cmpPl) l g cp hl (fun blk off cap d w hH hblk hsz => ?_) (fun a cap w => ?_) (fun l' h1 h2 => hQ l' h1 fun i j hi hj => ?_)
  · have eg : ∀ args w, (callFunc 143 args).run Try.prog w = .ok (.enter 143 args) w := enters_of Try.func143 (by kernel_rfl) rfl
    exact Go.Proofs.AnyQ.slices_SortFunc Go.Proofs.Try.sortPl 2 Try.isAgg38 Try.sizeOf38 cellsPv (fun _ => rfl) (fun x v hv => by simp [cellsPv] at hv; rcases hv with rfl | rfl <;> rfl) cmpPl swoPl 143 #[] blk off cap d w eg (fun _ _ _ _ x y => closureCmp x y _) hH hblk hsz
  · exact Go.Proofs.AnyF.slices_SortFunc_none Go.Proofs.Try.sortPl a cap _ w
  · have := h2 i j hi hj
    rw [ltPl] at this
    simpa using this
end Go.Proofs.Try
set_option linter.unusedVariables false
set_option linter.unusedSimpArgs false
open Go Go.AM
namespace Go.Proofs.Try
set_option maxRecDepth 100000
set_option maxHeartbeats 4000000
theorem cloneOwn_spec (l : List Pl) (h : Hp) (Q : AV → Hp → List Blk → Prop) (hl : l.length < 2^40) (hQ : ∀ g cp, l.length ≤ cp → Q (.sl (.n 0) g 2 0 l.length cp) h [.arr true g 2 l.length (fun i => encP (l.getD i ⟨0, 0⟩))]) : SemC Try.prog 96 [sP l] h Q := by
  refine SemC.enter func96 rfl (Nat.le_of_ble_eq_true rfl) fresh fresh_nodup ?_
  refine SemW.go tyT_ok mixed ?_
  conv => arg 7; whnf
  refine Holds.mk (by first | (simp; done) | (simp; omega) | omega) ?_
  refine SemW.eqNil tyT_ok rfl rfl fun b hb => ?_
  refine SemW.go tyT_ok mixed ?_
  conv => arg 7; whnf
  refine Holds.mk (by first | (simp; done) | (simp; omega) | omega) ?_
  refine SemW.cond rfl (fun c1 => ?_) (fun c1 => ?_)
  · have hl0 : l = [] := by simpa using hb c1
    subst hl0
    refine SemW.go tyT_ok mixed ?_
    conv => arg 7; whnf
    refine Holds.mk (by first | (simp; done) | (simp; omega) | omega) ?_
    refine SemW.nilRow (t := 2) true 2 (fun i => encP (([] : List Pl).getD i ⟨0, 0⟩)) rfl ?_
    refine SemW.ret tyT_ok func96 [0] rfl rfl rfl (by decide) rfl rfl ?_
    exact hQ 0 0 (Nat.le_refl _)
  · refine SemW.go tyT_ok mixed ?_
    conv => arg 7; whnf
    refine Holds.mk ((by simp; omega)) ?_
    refine SemW.weak (T' := [(2, .sl (.l 0) 1 2 0 l.length l.length)]) (L' := [(0, .arr true 1 2 l.length (fun i => encP (l.getD i ⟨0, 0⟩)))]) ⟨AvLe.sl (by omega) (Nat.le_refl _) (by omega), trivial⟩ ⟨⟨_, rfl, BlkLe.arr (by omega) (fun j _ => by simp [blt_zero])⟩, trivial⟩ ?_
    refine SemW.ret tyT_ok func96 [0] rfl rfl rfl (by decide) rfl rfl ?_
    exact hQ 1 l.length (Nat.le_refl _)
end Go.Proofs.Try
set_option linter.unusedVariables false
set_option linter.unusedSimpArgs false
open Go Go.AM
namespace Go.Proofs.Try
set_option maxRecDepth 100000
set_option maxHeartbeats 4000000
theorem perm_len {l l' : List Pl} (h : l'.Perm l) : l'.length = l.length := h.length_eq
/-- sorted rows rise just where no node comes twice -/
theorem rise_nodup {l l' : List Pl} (hp : l'.Perm l) (hs : ∀ i j, i < j → j < l'.length → ¬ (l'.getD j ⟨0, 0⟩).node < (l'.getD i ⟨0, 0⟩).node) : (List.range l'.length).all (upP l') = decide ((l.map (·.node)).Nodup) := by
  have hnd : (l.map (·.node)).Nodup ↔ (l'.map (·.node)).Nodup := ((hp.map (·.node)).nodup_iff).symm
  rw [Bool.eq_iff_iff, decide_eq_true_iff, hnd, List.Nodup, List.pairwise_map, List.pairwise_iff_getElem, List.all_eq_true]
  have gd : ∀ i (hi : i < l'.length), l'.getD i ⟨0, 0⟩ = l'[i] := fun i hi => by simp [hi]
  constructor
  · intro h i j hi hj hij e
    have h1 := h j (by simpa using hj)
    unfold upP at h1
    rw [gd j hj, gd (j - 1) (by omega)] at h1
    simp at h1
    have h2 := h1.resolve_left (by omega)
    by_cases hc : i = j - 1
    · subst hc
      omega
    · have h3 := hs i (j - 1) (by omega) (by omega)
      rw [gd i hi, gd (j - 1) (by omega)] at h3
      omega
  · intro h i hi
    have hi' : i < l'.length := by simpa using hi
    unfold upP
    by_cases h0 : i = 0
    · subst h0; rfl
    · have h1 := h (i - 1) i (by omega) hi' (by omega)
      have h2 := hs (i - 1) i (by omega) hi'
      rw [gd i hi', gd (i - 1) (by omega)] at h2
      rw [show l'.getD i P0 = l'[i] from gd i hi', show l'.getD (i - 1) P0 = l'[i - 1] from gd (i - 1) (by omega)]
      simp
      first | omega | (right; omega)
def fragOk (w : Int) (f : Fr) : Bool := (decide (1 ≤ f.first) && decide (f.first ≤ 9)) && ((decide (w ≤ f.books.length) && decide ((f.books.length : Int) ≤ 5)) && (f.books.all placeB && decide ((f.books.map (·.node)).Nodup)))
theorem frag_spec (w : Int) (f : Fr) (h : Hp) (Q : AV → Hp → List Blk → Prop) (hb : f.books.length < 2^40) (hQ : Q (abool (fragOk w f)) h []) : SemC Try.prog 126 [aint w, encF f] h Q := by
  refine SemC.enter func126 rfl (Nat.le_of_ble_eq_true rfl) fresh fresh_nodup ?_
  refine SemW.entT rfl ?_
  refine SemW.go tyT_ok mixed ?_
  conv => arg 7; whnf
  refine Holds.mk (by first | (simp; done) | (simp; omega) | omega) ?_
  refine SemW.call rfl rfl func96 rfl rfl ?_
  refine cloneOwn_spec f.books _ _ hb fun g cp hcp => ⟨h, _, rfl, Nat.le_of_ble_eq_true rfl, ?_⟩
  refine SemW.go tyT_ok mixed ?_
  conv => arg 7; whnf
  refine Holds.mk (by first | (simp; done) | (simp; omega) | omega) ?_
  refine SemW.callP [1] rfl rfl func142 rfl rfl rfl (by decide) rfl rfl ?_
  refine sortFunc_spec f.books g cp _ _ (by omega) fun l' hp hs => ⟨⟨Nat.le_of_ble_eq_true rfl, Nat.le_of_ble_eq_true rfl⟩, ?_⟩
  have hl' := perm_len hp
  have hrn := rise_nodup hp hs
  rw [hl'] at hrn
  refine SemW.go tyT_ok mixed ?_
  conv => arg 7; whnf
  refine Holds.mk (by first | (simp; done) | (simp; omega) | omega) ?_
  refine SemW.frzA 1 ?_
  conv => arg 7; whnf
  refine Holds.mk (by repeat' first | exact trivial | refine And.intro ?_ ?_ | exact rfl | (show 0 + f.books.length ≤ l'.length; omega)) ?_
  refine SemW.tellT [(5, sP l')] ⟨AvLe.vs hl'.symm (fun i _ => by rw [Nat.zero_add]), trivial⟩ ?_
  repeat' first
    | contradiction
    | (refine SemW.splitG rfl (fun c => ?_) (fun c => ?_) <;> (fail_if_success (cases c; done)))
    | (refine SemDr.splitG rfl (fun c => ?_) (fun c => ?_) <;> (fail_if_success (cases c; done)))
    | (refine SemW.goP tyT_ok mixed ?_; (conv => arg 8; whnf); refine HoldsP.mk rfl (by first | trivial | (simp; done) | (simp; omega) | omega) ?_)
    | (refine SemDr.goP tyT_ok ?_; (conv => arg 12; whnf); refine HoldsDP.mk rfl (by first | trivial | (simp; done) | (simp; omega) | omega) ?_)
    | (refine SemDr.end rfl ?_)
    | (refine SemW.cond rfl (fun c => ?_) (fun c => ?_))
    | (refine SemW.call0 rfl rfl func92 rfl rfl ?_; refine fromI_spec _ _ _ _ _ ⟨rfl, rfl, _, rfl, rfl, rfl, ?_⟩)
    | (refine SemDr.call0 rfl func92 rfl rfl ?_; refine fromI_spec _ _ _ _ _ ⟨rfl, rfl, _, rfl, rfl, rfl, ?_⟩)
    | (refine SemW.call0 rfl rfl func91 rfl rfl ?_; refine fromU_spec _ _ _ _ _ ⟨rfl, rfl, _, rfl, rfl, rfl, ?_⟩)
    | (refine SemDr.call0 rfl func91 rfl rfl ?_; refine fromU_spec _ _ _ _ _ ⟨rfl, rfl, _, rfl, rfl, rfl, ?_⟩)
    | (refine SemW.call0 rfl rfl func145 rfl rfl ?_; refine allP_spec f.books 146 _ [] placeB _ _ (by omega) ⟨fun _ => rfl, fun _ => rfl, fun _ => trivial⟩ rfl Try.func146 rfl rfl (fun p _ h Q hQ => placeOk_spec p h Q hQ) ⟨rfl, rfl, _, rfl, rfl, rfl, ?_⟩)
    | (refine SemDr.call0 rfl func145 rfl rfl ?_; refine allP_spec f.books 146 _ [] placeB _ _ (by omega) ⟨fun _ => rfl, fun _ => rfl, fun _ => trivial⟩ rfl Try.func146 rfl rfl (fun p _ h Q hQ => placeOk_spec p h Q hQ) ⟨rfl, rfl, _, rfl, rfl, rfl, ?_⟩)
    | (refine SemW.call0 rfl rfl func147 rfl rfl ?_; refine riseP_spec l' _ _ (by omega) ⟨rfl, rfl, _, rfl, rfl, rfl, ?_⟩)
    | (refine SemDr.call0 rfl func147 rfl rfl ?_; refine riseP_spec l' _ _ (by omega) ⟨rfl, rfl, _, rfl, rfl, rfl, ?_⟩)
    | (refine SemW.draw mixed rfl rfl ?_)
  all_goals
    (refine SemW.ret0 tyT_ok func126 rfl rfl rfl ?_; refine cast (congrArg (fun r => Q r h []) ?_) hQ; clear hQ; (show abool (fragOk w f) = abool _; unfold fragOk; simp only [*, Bool.true_and, Bool.false_and, Bool.and_true]))
theorem mayFrags1_spec (w : Int) (f : Fr) (h : Hp) (Q : AV → Hp → List Blk → Prop) (hb : f.books.length < 2^40) (hQ : Q (abool (fragOk w f)) h []) : SemC Try.prog 125 [encF f, .vp true 1 (.agg [aint w]) 0] h Q := by
  refine SemC.enter func125 rfl (Nat.le_of_ble_eq_true rfl) fresh fresh_nodup ?_
  refine SemW.entT rfl ?_
  repeat' first
    | contradiction
    | (refine SemW.splitG rfl (fun c => ?_) (fun c => ?_) <;> (fail_if_success (cases c; done)))
    | (refine SemDr.splitG rfl (fun c => ?_) (fun c => ?_) <;> (fail_if_success (cases c; done)))
    | (refine SemW.goP tyT_ok mixed ?_; (conv => arg 8; whnf); refine HoldsP.mk rfl (by first | trivial | (simp; done) | (simp; omega) | omega) ?_)
    | (refine SemDr.goP tyT_ok ?_; (conv => arg 12; whnf); refine HoldsDP.mk rfl (by first | trivial | (simp; done) | (simp; omega) | omega) ?_)
    | (refine SemDr.end rfl ?_)
    | (refine SemW.cond rfl (fun c => ?_) (fun c => ?_))
    | (refine SemW.call0 rfl rfl func126 rfl rfl ?_; refine frag_spec w f _ _ hb ⟨rfl, rfl, _, rfl, rfl, rfl, ?_⟩)
    | (refine SemDr.call0 rfl func126 rfl rfl ?_; refine frag_spec w f _ _ hb ⟨rfl, rfl, _, rfl, rfl, rfl, ?_⟩)
    | (refine SemW.draw mixed rfl rfl ?_)
  all_goals
    (refine SemW.ret0 tyT_ok func125 rfl rfl rfl ?_; refine cast (congrArg (fun r => Q r h []) ?_) hQ; clear hQ; first | (simp_all [AV.ren, renL]; done) | (simp_all [AV.ren, renL]; omega))
def mayPl (w : Int) (l : List Fr) : Bool := (decide (1 ≤ (l.length : Int)) && decide ((l.length : Int) ≤ 6)) && (((l.getD 0 F0).first == 1) && (l.all (fragOk w) && (List.range l.length).all (upF l)))
theorem mayFragsP_spec (w : Int) (l : List Fr) (h : Hp) (Q : AV → Hp → List Blk → Prop) (hl : l.length < 2^40) (hb : ∀ f ∈ l, f.books.length < 2^40) (hQ : Q (abool (mayPl w l)) h []) : SemC Try.prog 93 [aint w, sF l] h Q := by
  refine SemC.enter func93 rfl (Nat.le_of_ble_eq_true rfl) fresh fresh_nodup ?_
  refine SemW.entT rfl ?_
  repeat' first
    | contradiction
    | (refine SemW.splitG rfl (fun c => ?_) (fun c => ?_) <;> (fail_if_success (cases c; done)))
    | (refine SemDr.splitG rfl (fun c => ?_) (fun c => ?_) <;> (fail_if_success (cases c; done)))
    | (refine SemW.goP tyT_ok mixed ?_; (conv => arg 8; whnf); refine HoldsP.mk rfl (by first | trivial | (simp; done) | (simp at *; omega)) ?_)
    | (refine SemDr.goP tyT_ok ?_; (conv => arg 12; whnf); refine HoldsDP.mk rfl (by first | trivial | (simp; done) | (simp at *; omega)) ?_)
    | (refine SemDr.end rfl ?_)
    | (refine SemW.cond rfl (fun c => ?_) (fun c => ?_))
    | (refine SemW.call0 rfl rfl func92 rfl rfl ?_; refine fromI_spec _ _ _ _ _ ⟨rfl, rfl, _, rfl, rfl, rfl, ?_⟩)
    | (refine SemDr.call0 rfl func92 rfl rfl ?_; refine fromI_spec _ _ _ _ _ ⟨rfl, rfl, _, rfl, rfl, rfl, ?_⟩)
    | (refine SemW.call0 rfl rfl func127 rfl rfl ?_; refine riseF_spec l _ _ (by omega) ⟨rfl, rfl, _, rfl, rfl, rfl, ?_⟩)
    | (refine SemDr.call0 rfl func127 rfl rfl ?_; refine riseF_spec l _ _ (by omega) ⟨rfl, rfl, _, rfl, rfl, rfl, ?_⟩)
    | (refine SemW.call0 rfl rfl func124 rfl rfl ?_; refine SemC.view [sF l, .fn 125 [.vp true 1 (.agg [aint w]) 0]] ⟨AvLe.refl _, AvLe.refl _, trivial⟩ ⟨trivial, ⟨trivial, trivial⟩, trivial⟩ ?_; refine allF_spec l 125 _ [.vp true 1 (.agg [aint w]) 0] (fragOk w) _ _ (by omega) (CapsOk.vp _ _ _ _) rfl Try.func125 rfl rfl (fun p hp h Q hQ => mayFrags1_spec w p h Q (hb p hp) hQ) ⟨rfl, trivial, rfl, rfl, _, rfl, rfl, rfl, ?_⟩)
    | (refine SemW.draw mixed rfl rfl ?_)
  all_goals
    (refine SemW.ret0 tyT_ok func93 rfl rfl rfl ?_; refine cast (congrArg (fun r => Q r h []) ?_) hQ; clear hQ; ((try simp only [Int.toNat_zero] at *); show abool (mayPl w l) = abool _; unfold mayPl; simp only [*, Bool.true_and, Bool.false_and, Bool.and_true]))
/-- may a ledger be? -/
def mayLB (l : Le) : Bool := (decide (1 ≤ l.id) && decide (l.id ≤ 4611686018427387903)) && ((decide (1 ≤ l.a) && decide (l.a ≤ l.w)) && (decide (l.w ≤ 5) && (mayPl l.w l.frags && ((decide (0 ≤ l.closed) && decide (l.closed ≤ 1)) && decide (l.last ≤ IntKind.u64.wrap (8 * IntKind.u64.wrap l.closed))))))
theorem mayLedger_spec (l : Le) (h : Hp) (Q : AV → Hp → List Blk → Prop) (hl : l.frags.length < 2^40) (hb : ∀ f ∈ l.frags, f.books.length < 2^40) (hQ : Q (abool (mayLB l)) h []) : SemC Try.prog 47 [encL l] h Q := by
  refine SemC.enter func47 rfl (Nat.le_of_ble_eq_true rfl) fresh fresh_nodup ?_
  refine SemW.entT rfl ?_
  repeat' first
    | contradiction
    | (refine SemW.splitG rfl (fun c => ?_) (fun c => ?_) <;> (fail_if_success (cases c; done)))
    | (refine SemDr.splitG rfl (fun c => ?_) (fun c => ?_) <;> (fail_if_success (cases c; done)))
    | (refine SemW.goP tyT_ok mixed ?_; (conv => arg 8; whnf); refine HoldsP.mk rfl (by first | trivial | (simp; done) | (simp; omega) | omega) ?_)
    | (refine SemDr.goP tyT_ok ?_; (conv => arg 12; whnf); refine HoldsDP.mk rfl (by first | trivial | (simp; done) | (simp; omega) | omega) ?_)
    | (refine SemDr.end rfl ?_)
    | (refine SemW.cond rfl (fun c => ?_) (fun c => ?_))
    | (refine SemW.call0 rfl rfl func92 rfl rfl ?_; refine fromI_spec _ _ _ _ _ ⟨rfl, rfl, _, rfl, rfl, rfl, ?_⟩)
    | (refine SemDr.call0 rfl func92 rfl rfl ?_; refine fromI_spec _ _ _ _ _ ⟨rfl, rfl, _, rfl, rfl, rfl, ?_⟩)
    | (refine SemW.call0 rfl rfl func91 rfl rfl ?_; refine fromU_spec _ _ _ _ _ ⟨rfl, rfl, _, rfl, rfl, rfl, ?_⟩)
    | (refine SemDr.call0 rfl func91 rfl rfl ?_; refine fromU_spec _ _ _ _ _ ⟨rfl, rfl, _, rfl, rfl, rfl, ?_⟩)
    | (refine SemW.call0 rfl rfl func93 rfl rfl ?_; refine mayFragsP_spec l.w l.frags _ _ hl hb ⟨rfl, rfl, _, rfl, rfl, rfl, ?_⟩)
    | (refine SemDr.call0 rfl func93 rfl rfl ?_; refine mayFragsP_spec l.w l.frags _ _ hl hb ⟨rfl, rfl, _, rfl, rfl, rfl, ?_⟩)
    | (refine SemW.draw mixed rfl rfl ?_)
  all_goals
    (refine SemW.ret0 tyT_ok func47 rfl rfl rfl ?_; refine cast (congrArg (fun r => Q r h []) ?_) hQ; clear hQ; (show abool (mayLB l) = abool _; unfold mayLB; simp only [*, Bool.true_and, Bool.false_and, Bool.and_true]))
end Go.Proofs.Try
set_option linter.unusedVariables false
set_option linter.unusedSimpArgs false
open Go Go.AM
namespace Go.Proofs.Try
set_option maxRecDepth 100000
set_option maxHeartbeats 4000000
theorem cloneB_spec (l : List Int) (h : Hp) (Q : AV → Hp → List Blk → Prop) (hl : l.length < 2^40) (hQ : Q (sB l) h []) : SemC Try.prog 54 [sB l] h Q := by
  refine SemC.enter func54 rfl (Nat.le_of_ble_eq_true rfl) fresh fresh_nodup ?_
  refine SemW.go tyT_ok mixed ?_
  conv => arg 7; whnf
  refine Holds.mk (by first | (simp; done) | (simp; omega) | omega) ?_
  refine SemW.eqNil tyT_ok rfl rfl fun b hb => ?_
  refine SemW.go tyT_ok mixed ?_
  conv => arg 7; whnf
  refine Holds.mk (by first | (simp; done) | (simp; omega) | omega) ?_
  refine SemW.cond rfl (fun c1 => ?_) (fun c1 => ?_)
  · have hl0 : l = [] := by simpa using hb c1
    subst hl0
    refine SemW.go tyT_ok mixed ?_
    conv => arg 7; whnf
    refine Holds.mk (by first | (simp; done) | (simp; omega) | omega) ?_
    refine SemW.weak (T' := [(2, sB [])]) (L' := []) ⟨AvLe.nil _ _ _ _, trivial⟩ trivial ?_
    refine SemW.ret0 tyT_ok func54 rfl rfl rfl ?_
    exact hQ
  · refine SemW.go tyT_ok mixed ?_
    conv => arg 7; whnf
    refine Holds.mk ((by simp; omega)) ?_
    refine SemW.frzW (T' := [(2, sB l)]) (L' := []) 0 rfl rfl ⟨AvLe.vs (by omega) (fun j _ => by simp [blt_zero]), ⟨by simp [Blk.num], rfl⟩, trivial⟩ trivial ?_
    refine SemW.ret0 tyT_ok func54 rfl rfl rfl ?_
    exact hQ
theorem equalP_spec (a b : List Pl) (h : Hp) (Q : AV → Hp → List Blk → Prop) (hl : a.length < 2^62) (hQ : Q (abool (decide (a = b))) h []) : SemC Try.prog 55 [sP a, sP b] h Q := by
  refine SemC.enter func55 rfl (Nat.le_of_ble_eq_true rfl) fresh fresh_nodup ?_
  refine SemW.entT rfl ?_
  refine SemW.go tyT_ok mixed ?_
  conv => arg 7; whnf
  refine Holds.mk (by first | (simp; done) | (simp; omega) | omega) ?_
  refine SemW.cond rfl (fun c1 => ?_) (fun c1 => ?_)
  · have : decide (a = b) = false := by simp at c1 ⊢; intro e; exact c1 (by rw [e])
    rw [this] at hQ
    refine SemW.go tyT_ok mixed ?_
    conv => arg 7; whnf
    refine Holds.mk (by first | (simp; done) | (simp; omega) | omega) ?_
    (refine SemW.ret0 tyT_ok func55 rfl rfl rfl ?_; refine cast (congrArg (fun r => Q r h []) ?_) hQ; clear hQ; rfl)
  · have hlen : a.length = b.length := by simp at c1; omega
    refine SemW.go tyT_ok mixed ?_
    conv => arg 7; whnf
    refine Holds.mk (by first | (simp; done) | (simp; omega) | omega) ?_
    refine SemW.loopG (X := {i : Nat // i ≤ a.length ∧ a.take i = b.take i}) (fun x => [(13, aint x.1)]) (fun x => []) (fun x => a.length - x.1) (⟨0, by simp⟩) ?_
    conv => arg 15; whnf
    refine LoopC.mk ?sT ?sL (by decide) rfl rfl rfl ?_
    case sT => repeat' first | exact trivial | refine And.intro ?_ ?_ | (first | exact AvLe.of (incI (by omega)) | exact AvLe.of (incU (by omega)) | exact AvLe.of (decI (by omega)) | exact AvLe.refl _ | exact AvLe.sl (by first | rfl | (simp; done) | omega) (by first | exact Nat.le_refl _ | (simp; done) | omega) (by first | exact Nat.le_refl _ | (simp; done) | (simp; omega) | omega))
    case sL => repeat' first | exact trivial | refine And.intro ?_ ?_ | exact ⟨_, rfl, BlkLe.refl _⟩ | exact ⟨_, rfl, BlkLe.arr (by simp; done) (app1P rfl)⟩ | exact ⟨_, rfl, BlkLe.arr (by simp; done) (app1E rfl)⟩ | exact ⟨_, rfl, BlkLe.arr (by simp; done) (fun j _ => by simp [blt_zero]; done)⟩
    rintro ⟨i, hi, hab⟩ IH
    dsimp only at hi hab IH ⊢
    refine SemW.go tyT_ok mixed ?_
    conv => arg 7; whnf
    refine Holds.mk (by first | (simp; done) | (simp; omega) | omega) ?_
    refine SemW.cond rfl (fun c2 => ?_) (fun c2 => ?_)
    · have hil : i < a.length := by simpa using c2
      have hib : i < b.length := by omega
      have ha := take_snoc (d := P0) hil
      have hb := take_snoc (d := P0) hib
      refine SemW.go tyT_ok mixed ?_
      conv => arg 7; whnf
      refine Holds.mk (by first | (simp; done) | (simp; omega) | omega) ?_
      refine SemW.cond rfl (fun c3 => ?_) (fun c3 => ?_)
      · have hne : a.getD i P0 ≠ b.getD i P0 := by
          have c3' : (!(a.getD i P0 == b.getD i P0)) = true := by rw [← eqP]; exact c3
          simpa using c3'
        have : decide (a = b) = false := by
          simp only [decide_eq_false_iff_not]
          intro e
          exact hne (by rw [e])
        rw [this] at hQ
        refine SemW.go tyT_ok mixed ?_
        conv => arg 7; whnf
        refine Holds.mk (by first | (simp; done) | (simp; omega) | omega) ?_
        (refine SemW.ret0 tyT_ok func55 rfl rfl rfl ?_; refine cast (congrArg (fun r => Q r h []) ?_) hQ; clear hQ; rfl)
      · have he : a.getD i P0 = b.getD i P0 := by
          have c3' : (!(a.getD i P0 == b.getD i P0)) = false := by rw [← eqP]; exact c3
          simpa using c3'
        refine SemW.go tyT_ok mixed ?_
        conv => arg 7; whnf
        refine Holds.mk (by first | (simp; done) | (simp; omega) | omega) ?_
        refine SemW.back (IH ⟨i + 1, hil, by rw [ha, hb, hab, he]⟩ (by show a.length - (i + 1) < a.length - i; omega)) ?bT ?bL rfl rfl (by decide) rfl rfl rfl
        case bT => repeat' first | exact trivial | refine And.intro ?_ ?_ | (first | exact AvLe.of (incI (by omega)) | exact AvLe.of (incU (by omega)) | exact AvLe.of (decI (by omega)) | exact AvLe.refl _ | exact AvLe.sl (by first | rfl | (simp; done) | omega) (by first | exact Nat.le_refl _ | (simp; done) | omega) (by first | exact Nat.le_refl _ | (simp; done) | (simp; omega) | omega))
        case bL => repeat' first | exact trivial | refine And.intro ?_ ?_ | exact ⟨_, rfl, BlkLe.refl _⟩ | exact ⟨_, rfl, BlkLe.arr (by simp; done) (app1P rfl)⟩ | exact ⟨_, rfl, BlkLe.arr (by simp; done) (app1E rfl)⟩ | exact ⟨_, rfl, BlkLe.arr (by simp; done) (fun j _ => by simp [blt_zero]; done)⟩
    · have h1 : i = a.length := by simp at c2; omega
      have : decide (a = b) = true := by
        subst h1
        rw [List.take_length, hlen, List.take_length] at hab
        simp [hab]
      rw [this] at hQ
      refine SemW.go tyT_ok mixed ?_
      conv => arg 7; whnf
      refine Holds.mk (by first | (simp; done) | (simp; omega) | omega) ?_
      (refine SemW.ret0 tyT_ok func55 rfl rfl rfl ?_; refine cast (congrArg (fun r => Q r h []) ?_) hQ; clear hQ; rfl)
def cellsFe (f : Fe) : List AV := [au f.ledger, au f.n, sP f.set, aint f.at_, au f.since, au f.tag, aint f.done, sB f.body]
theorem rown_spec (f : Fe) (h : Hp) (Q : AV → Hp → List Blk → Prop) (hs : f.set.length < 2^40) (hb : f.body.length < 2^40) (hQ : Q (.ptr (.n 0) 0) h [.obj (cellsFe f ++ [nilS])]) : SemC Try.prog 50 [encFe f] h Q := by
  refine SemC.enter func50 rfl (Nat.le_of_ble_eq_true rfl) fresh fresh_nodup ?_
  refine SemW.entT rfl ?_
  repeat' first
    | contradiction
    | (refine SemW.splitG rfl (fun c => ?_) (fun c => ?_) <;> (fail_if_success (cases c; done)))
    | (refine SemDr.splitG rfl (fun c => ?_) (fun c => ?_) <;> (fail_if_success (cases c; done)))
    | (refine SemW.goP tyT_ok mixed ?_; (conv => arg 8; whnf); refine HoldsP.mk rfl (by first | trivial | (simp; done) | (simp; omega) | omega) ?_)
    | (refine SemDr.goP tyT_ok ?_; (conv => arg 12; whnf); refine HoldsDP.mk rfl (by first | trivial | (simp; done) | (simp; omega) | omega) ?_)
    | (refine SemDr.end rfl ?_)
    | (refine SemW.cond rfl (fun c => ?_) (fun c => ?_))
    | (refine SemW.call0 rfl rfl func96 rfl rfl ?_; refine clone_spec _ _ _ hs ⟨rfl, rfl, _, rfl, rfl, rfl, ?_⟩)
    | (refine SemDr.call0 rfl func96 rfl rfl ?_; refine clone_spec _ _ _ hs ⟨rfl, rfl, _, rfl, rfl, rfl, ?_⟩)
    | (refine SemW.call0 rfl rfl func54 rfl rfl ?_; refine cloneB_spec _ _ _ hb ⟨rfl, rfl, _, rfl, rfl, rfl, ?_⟩)
    | (refine SemDr.call0 rfl func54 rfl rfl ?_; refine cloneB_spec _ _ _ hb ⟨rfl, rfl, _, rfl, rfl, rfl, ?_⟩)
    | (refine SemW.draw mixed rfl rfl ?_)
  refine SemW.ret tyT_ok func50 [1] rfl rfl rfl (by decide) rfl rfl ?_
  exact hQ
def askF (f : Fe) (at_ now : Int) : Fe × List Rq :=
  if f.set.length = 0 then (f, []) else ({ f with at_ := (if 0 > at_ then 0 else at_).tmod f.set.length, since := now }, [⟨f.set.getD ((if 0 > at_ then 0 else at_).tmod f.set.length).toNat P0, 3, f.ledger, f.n, f.tag, 0, 0, [], []⟩])
theorem ask_at (at_ : Int) {n : Nat} (h : n ≠ 0) : 0 ≤ (if 0 > at_ then 0 else at_).tmod n ∧ (if 0 > at_ then 0 else at_).tmod n < n := by
  have h0 : 0 ≤ (if 0 > at_ then 0 else at_) := by split <;> omega
  exact ⟨Int.tmod_nonneg _ h0, Int.tmod_lt_of_pos _ (Int.natCast_pos.2 (Nat.pos_of_ne_zero h))⟩
theorem ask_spec (f : Fe) (at_ now : Int) (h : Hp) (Q : AV → List Blk → Prop) (hs : f.set.length < 2^40) (hQ : Q (.tup []) [.obj (cellsFe (askF f at_ now).1 ++ [sQ (askF f at_ now).2])]) :
    SemCI Try.prog 49 [.ptr (.n 0) 0, aint at_, au now] [.obj (cellsFe f ++ [nilS])] h Q := by
  refine SemCI.enter func49 rfl (Nat.le_of_ble_eq_true rfl) fresh1 fresh1_nodup fresh1_geG fun p => ?_
  refine SemW.go tyT_ok mixed ?_
  conv => arg 7; whnf
  refine Holds.mk (by first | (simp; done) | (simp; omega) | omega) ?_
  refine SemW.cond rfl (fun c => ?_) (fun c => ?_)
  · have hz : f.set.length = 0 := by simpa using c
    unfold askF at hQ
    rw [if_pos hz] at hQ
    refine SemW.tellB [(0, .obj (cellsFe f ++ [sQ []]))] ⟨⟨_, rfl, BlkLe.obj ⟨AvLe.refl _, AvLe.refl _, AvLe.refl _, AvLe.refl _, AvLe.refl _, AvLe.refl _, AvLe.refl _, AvLe.refl _, AvLe.nil _ _ _ _, trivial⟩⟩, trivial⟩ ?_
    refine SemW.retK tyT_ok func49 [0] rfl rfl rfl (by decide) rfl rfl rfl ?_
    exact ⟨rfl, hQ⟩
  · have hz : f.set.length ≠ 0 := by simpa using c
    have ha := ask_at at_ hz
    unfold askF at hQ
    rw [if_neg hz] at hQ
    refine SemW.go tyT_ok mixed ?_
    conv => arg 7; whnf
    refine Holds.mk ((by simp [hz]; omega)) ?_
    refine SemW.gc ?_
    conv => arg 7; whnf
    refine Holds.mk trivial ?_
    refine SemW.frzA 2 ?_
    conv => arg 7; whnf
    refine Holds.mk (by repeat' first | exact trivial | refine And.intro ?_ ?_ | exact rfl | exact Nat.le_refl _ | exact Nat.le_of_eq (Nat.zero_add _) | (simp [Blk.num, Blk.gen]; done) | (simp [Blk.num, Blk.gen]; omega)) ?_
    refine SemW.tellB [(0, .obj (cellsFe { f with at_ := (if 0 > at_ then 0 else at_).tmod f.set.length, since := now } ++ [sQ [⟨f.set.getD ((if 0 > at_ then 0 else at_).tmod f.set.length).toNat P0, 3, f.ledger, f.n, f.tag, 0, 0, [], []⟩]]))] ⟨⟨_, rfl, BlkLe.obj ⟨AvLe.refl _, AvLe.refl _, AvLe.refl _, AvLe.refl _, AvLe.refl _, AvLe.refl _, AvLe.refl _, AvLe.refl _, AvLe.vsW rfl (fun i hi => ?_), trivial⟩⟩, trivial⟩ ?_
    · have e : i = 0 := by omega
      subst e
      exact ⟨rfl, FLe.refl _, FLe.refl _, FLe.refl _, FLe.refl _, FLe.refl _, FLe.refl _, FLe.refl _, FLe.refl _, FLe.nil _ _ _ _, FLe.nil _ _ _ _, trivial⟩
    · refine SemW.retK tyT_ok func49 [0] rfl rfl rfl (by decide) rfl rfl rfl ?_
      exact ⟨rfl, hQ⟩
def askedF (f : Fe) : Pl := if f.at_ < 0 ∨ f.at_ ≥ f.set.length then P0 else f.set.getD f.at_.toNat P0
theorem asked_spec (f : Fe) (h : Hp) (Q : AV → Hp → List Blk → Prop) (hQ : Q (encP (askedF f)) h []) : SemC Try.prog 52 [.vp true 9 (.agg (cellsFe f ++ [nilS])) 0] h Q := by
  refine SemC.enter func52 rfl (Nat.le_of_ble_eq_true rfl) fresh fresh_nodup ?_
  refine SemW.entT rfl ?_
  repeat' first
    | contradiction
    | (refine SemW.splitG rfl (fun c => ?_) (fun c => ?_) <;> (fail_if_success (cases c; done)))
    | (refine SemDr.splitG rfl (fun c => ?_) (fun c => ?_) <;> (fail_if_success (cases c; done)))
    | (refine SemW.goP tyT_ok mixed ?_; (conv => arg 8; whnf); refine HoldsP.mk rfl (by first | trivial | (simp at *; omega)) ?_)
    | (refine SemDr.goP tyT_ok ?_; (conv => arg 12; whnf); refine HoldsDP.mk rfl (by first | trivial | (simp at *; omega)) ?_)
    | (refine SemDr.end rfl ?_)
    | (refine SemW.cond rfl (fun c => ?_) (fun c => ?_))
    | (refine SemW.draw mixed rfl rfl ?_)
  all_goals
    (refine SemW.ret0 tyT_ok func52 rfl rfl rfl ?_; refine cast (congrArg (fun r => Q r h []) ?_) hQ; clear hQ; (show encP (askedF f) = _; unfold askedF; simp at *; first | (rw [if_pos (by omega)]; rfl) | (rw [if_neg (by omega)]; first | rfl | (simp; rfl))))
theorem setL_lt {l : List Fr} {w n : Int} (hw : w ≤ 5) : (setL l w n).length < 2^40 := by
  unfold setL
  dsimp only
  split
  · rw [fromL_length]; omega
  · simp
theorem mayLB_w {l : Le} (h : mayLB l = true) : l.w ≤ 5 := by
  unfold mayLB at h
  simp at h
  omega
/-- a fetch begins -/
def newFe (l : Le) (n tag : Int) : Fe := ⟨l.id, n, setL l.frags l.w n, 0, 0, tag, 0, []⟩
def newOk (l : Le) (n : Int) : Bool := mayLB l && (!(decide (n < 1)) && (!(decide (n > 8)) && !((l.closed == 1) && decide (n > l.last))))
def newF (l : Le) (n tag now : Int) : Fe × List Rq × Int := if newOk l n then ((askF (newFe l n tag) 0 now).1, (askF (newFe l n tag) 0 now).2, 0) else (E0, [], 1)
theorem rnew_spec (l : Le) (n tag now : Int) (h : Hp) (Q : AV → Hp → List Blk → Prop) (hl : l.frags.length < 2^40) (hb : ∀ f ∈ l.frags, f.books.length < 2^40 ∧ 0 ≤ f.first) (hn : n ≤ 18446744073709551615)
    (hQ : Q (.tup [encFe (newF l n tag now).1, sQ (newF l n tag now).2.1, aint (newF l n tag now).2.2]) h []) : SemC Try.prog 12 [encL l, au n, au tag, au now] h Q := by
  refine SemC.enter func12 rfl (Nat.le_of_ble_eq_true rfl) fresh fresh_nodup ?_
  refine SemW.entT rfl ?_
  repeat' first
    | contradiction
    | (refine SemW.splitG rfl (fun c => ?_) (fun c => ?_) <;> (fail_if_success (cases c; done)))
    | (refine SemDr.splitG rfl (fun c => ?_) (fun c => ?_) <;> (fail_if_success (cases c; done)))
    | (refine SemW.goP tyT_ok mixed ?_; (conv => arg 8; whnf); refine HoldsP.mk rfl (by first | trivial | (simp; done) | (simp; omega) | omega) ?_)
    | (refine SemDr.goP tyT_ok ?_; (conv => arg 12; whnf); refine HoldsDP.mk rfl (by first | trivial | (simp; done) | (simp; omega) | omega) ?_)
    | (refine SemDr.end rfl ?_)
    | (refine SemW.cond rfl (fun c => ?_) (fun c => ?_))
    | (refine SemW.call0 rfl rfl func47 rfl rfl ?_; refine mayLedger_spec l _ _ hl (fun f hf => (hb f hf).1) ⟨rfl, rfl, _, rfl, rfl, rfl, ?_⟩)
    | (refine SemDr.call0 rfl func47 rfl rfl ?_; refine mayLedger_spec l _ _ hl (fun f hf => (hb f hf).1) ⟨rfl, rfl, _, rfl, rfl, rfl, ?_⟩)
    | (refine SemW.call0 rfl rfl func48 rfl rfl ?_; refine set_spec l.frags l.w n _ _ (by omega) hb hn ⟨rfl, rfl, _, rfl, rfl, rfl, ?_⟩)
    | (refine SemDr.call0 rfl func48 rfl rfl ?_; refine set_spec l.frags l.w n _ _ (by omega) hb hn ⟨rfl, rfl, _, rfl, rfl, rfl, ?_⟩)
    | (refine SemW.draw mixed rfl rfl ?_)
  all_goals try (have hf : newOk l n = false := (by clear hQ; simp_all [newOk]; done); unfold newF at hQ; rw [hf] at hQ; refine SemW.retD tyT_ok func12 rfl rfl hQ rfl ⟨⟨trivial, trivial, trivial, trivial, trivial, trivial, trivial, trivial, trivial⟩, trivial, trivial, trivial⟩ (AvLe.tup ⟨AvLe.agg ⟨AvLe.refl _, AvLe.refl _, AvLe.nil _ _ _ _, AvLe.refl _, AvLe.refl _, AvLe.refl _, AvLe.refl _, AvLe.nil _ _ _ _, trivial⟩, AvLe.nil _ _ _ _, AvLe.refl _, trivial⟩))
  all_goals (have hf : newOk l n = true := (by clear hQ; simp_all [newOk]; done); unfold newF at hQ; rw [hf] at hQ)
  all_goals (refine SemW.tellB [(2, .obj (cellsFe (newFe l n tag) ++ [nilS]))] ⟨⟨_, rfl, BlkLe.obj ⟨AvLe.refl _, AvLe.refl _, AvLe.refl _, AvLe.refl _, AvLe.refl _, AvLe.refl _, AvLe.refl _, AvLe.nil _ _ _ _, AvLe.refl _, trivial⟩⟩, trivial⟩ ?_)
  all_goals (refine SemW.callP [2] rfl rfl func49 rfl rfl rfl (by decide) rfl rfl ?_; refine ask_spec (newFe l n tag) 0 now _ _ (setL_lt (mayLB_w (by unfold newOk at hf; simp at hf; exact hf.1))) ⟨⟨Nat.le_of_ble_eq_true rfl, Nat.le_of_ble_eq_true rfl⟩, ?_⟩; generalize askF (newFe l n tag) 0 now = r at *; obtain ⟨rf, rq⟩ := r)
  all_goals
    refine SemW.go tyT_ok mixed ?_
    conv => arg 7; whnf
    refine Holds.mk (by first | (simp; done) | (simp; omega) | omega) ?_
  all_goals (refine SemW.retD tyT_ok func12 rfl rfl hQ rfl ⟨⟨trivial, trivial, trivial, trivial, trivial, trivial, trivial, trivial, trivial⟩, trivial, trivial, trivial⟩ (AvLe.refl _))
end Go.Proofs.Try
set_option linter.unusedVariables false
set_option linter.unusedSimpArgs false
open Go Go.AM
namespace Go.Proofs.Try
set_option maxRecDepth 100000
set_option maxHeartbeats 8000000
abbrev onAt (f : Fe) : Int := IntKind.i64.wrap (f.at_ + 1)
def leftB (f : Fe) (r : Re) : Bool := f.done == 1 || (r.kind != 3 || (r.ledger != f.ledger || (r.n != f.n || r.epoch != f.tag)))
def takeF (f : Fe) (now : Int) (r : Re) : Fe × List Rq :=
  if leftB f r then (f, [])
  else if r.code == 0 then (if f.set.any (· == r.src) then ({ f with done := 1, body := r.body }, []) else (f, []))
  else if r.code == 3 || (r.code == 2 || r.code == 1) then (if r.src == askedF f then askF f (onAt f) now else (f, []))
  else if r.code == 4 && r.src.node == (askedF f).node then askF f (onAt f) now else (f, [])
theorem setL_lt40 {l : List Fr} {w n : Int} (hb : ∀ f ∈ l, f.books.length < 2^40) : (setL l w n).length < 2^40 := by
  unfold setL
  dsimp only
  split
  · rename_i h
    rw [fromL_length]
    have := lastF_mem (l := l) (is := fun f => decide (f.first ≤ n)) (p := fun f => f.books.length < 2^40) hb (by simp)
    omega
  · simp
theorem rtake_spec (f : Fe) (now : Int) (r : Re) (h : Hp) (Q : AV → Hp → List Blk → Prop) (hs : f.set.length < 2^40) (hb : f.body.length < 2^40) (hr : r.body.length < 2^40)
    (hQ : ∀ x, x = takeF f now r → Q (.tup [encFe x.1, sQ x.2]) h []) : SemC Try.prog 16 [encFe f, au now, encRe r] h Q := by
  refine SemC.enter func16 rfl (Nat.le_of_ble_eq_true rfl) fresh fresh_nodup ?_
  refine SemW.entT rfl ?_
  repeat' first
    | contradiction
    | (refine SemW.splitG rfl (fun c => ?_) (fun c => ?_) <;> (fail_if_success (cases c; done)))
    | (refine SemDr.splitG rfl (fun c => ?_) (fun c => ?_) <;> (fail_if_success (cases c; done)))
    | (refine SemW.goP tyT_ok mixed ?_; (conv => arg 8; whnf); refine HoldsP.mk rfl (by first | trivial | (simp; done) | (simp; omega) | omega) ?_)
    | (refine SemDr.goP tyT_ok ?_; (conv => arg 12; whnf); refine HoldsDP.mk rfl (by first | trivial | (simp; done) | (simp; omega) | omega) ?_)
    | (refine SemDr.end rfl ?_)
    | (refine SemW.cond rfl (fun c => ?_) (fun c => ?_))
    | (refine SemW.call rfl rfl func50 rfl rfl ?_; refine rown_spec f _ _ hs hb ⟨_, _, rfl, Nat.le_of_ble_eq_true rfl, ?_⟩)
    | (refine SemW.call0 rfl rfl func52 rfl rfl ?_; refine SemC.view [.vp true 9 (.agg (cellsFe f ++ [nilS])) 0] ⟨AvLe.refl _, trivial⟩ ⟨trivial, trivial⟩ ?_; refine asked_spec f _ _ ⟨rfl, trivial, rfl, rfl, _, rfl, rfl, rfl, ?_⟩)
    | (refine SemW.call0 rfl rfl func53 rfl rfl ?_; refine contains_spec f.set r.src _ _ (by omega) ⟨rfl, rfl, _, rfl, rfl, rfl, ?_⟩)
    | (refine SemDr.call0 rfl func53 rfl rfl ?_; refine contains_spec f.set r.src _ _ (by omega) ⟨rfl, rfl, _, rfl, rfl, rfl, ?_⟩)
    | (refine SemW.call0 rfl rfl func54 rfl rfl ?_; refine cloneB_spec r.body _ _ hr ⟨rfl, rfl, _, rfl, rfl, rfl, ?_⟩)
    | (refine SemDr.call0 rfl func54 rfl rfl ?_; refine cloneB_spec r.body _ _ hr ⟨rfl, rfl, _, rfl, rfl, rfl, ?_⟩)
    | (refine SemW.callP [3] rfl rfl func49 rfl rfl rfl (by decide) rfl rfl ?_; refine ask_spec f _ now _ _ hs ⟨⟨Nat.le_of_ble_eq_true rfl, Nat.le_of_ble_eq_true rfl⟩, ?_⟩)
    | (refine SemW.draw mixed rfl rfl ?_)
  all_goals first
    | (refine SemW.retD tyT_ok func16 rfl rfl (hQ (f, []) ?eq) rfl ?vc ?av; (case eq => clear hQ hs hb hr; (try simp only [eqP] at *); unfold takeF leftB; simp only [*, Bool.or_true, Bool.true_or, Bool.or_false, Bool.false_or, Bool.and_true, Bool.true_and, Bool.and_false, Bool.false_and, Bool.not_true, Bool.not_false, if_true, if_false, Bool.false_eq_true]; done); (case av => exact AvLe.tup ⟨AvLe.refl _, AvLe.nil _ _ _ _, trivial⟩); (case vc => repeat' first | exact trivial | refine And.intro ?_ ?_))
    | (refine SemW.retD tyT_ok func16 rfl rfl (hQ ({ f with done := 1, body := r.body }, []) ?eq) rfl ?vc ?av; (case eq => clear hQ hs hb hr; (try simp only [eqP] at *); unfold takeF leftB; simp only [*, Bool.or_true, Bool.true_or, Bool.or_false, Bool.false_or, Bool.and_true, Bool.true_and, Bool.and_false, Bool.false_and, Bool.not_true, Bool.not_false, if_true, if_false, Bool.false_eq_true]; done); (case av => exact AvLe.tup ⟨AvLe.refl _, AvLe.nil _ _ _ _, trivial⟩); (case vc => repeat' first | exact trivial | refine And.intro ?_ ?_))
    | (refine SemW.retD tyT_ok func16 rfl rfl (hQ (askF f (onAt f) now) ?eq) rfl ?vc ?av; (case eq => clear hQ hs hb hr; (try simp only [eqP] at *); unfold takeF leftB; simp only [*, Bool.or_true, Bool.true_or, Bool.or_false, Bool.false_or, Bool.and_true, Bool.true_and, Bool.and_false, Bool.false_and, Bool.not_true, Bool.not_false, if_true, if_false, Bool.false_eq_true]; done); (case av => exact AvLe.tup ⟨AvLe.refl _, AvLe.refl _, trivial⟩); (case vc => repeat' first | exact trivial | refine And.intro ?_ ?_))
    | (exfalso; clear hQ hs hb hr; simp_all; done)
def tickB (f : Fe) (now : Int) : Bool := f.done != 1 && decide ((IntKind.u64.wrap ((if f.since > now then f.since else now) - f.since)) ≥ 3)
def tickF (f : Fe) (now : Int) : Fe × List Rq := if tickB f now then askF f (onAt f) now else (f, [])
theorem rtick_spec (f : Fe) (now : Int) (h : Hp) (Q : AV → Hp → List Blk → Prop) (hs : f.set.length < 2^40) (hb : f.body.length < 2^40)
    (hQ : ∀ x, x = tickF f now → Q (.tup [encFe x.1, sQ x.2]) h []) : SemC Try.prog 13 [encFe f, au now] h Q := by
  refine SemC.enter func13 rfl (Nat.le_of_ble_eq_true rfl) fresh fresh_nodup ?_
  refine SemW.entT rfl ?_
  repeat' first
    | contradiction
    | (refine SemW.splitG rfl (fun c => ?_) (fun c => ?_) <;> (fail_if_success (cases c; done)))
    | (refine SemDr.splitG rfl (fun c => ?_) (fun c => ?_) <;> (fail_if_success (cases c; done)))
    | (refine SemW.goP tyT_ok mixed ?_; (conv => arg 8; whnf); refine HoldsP.mk rfl (by first | trivial | (simp; done) | (simp; omega) | omega) ?_)
    | (refine SemDr.goP tyT_ok ?_; (conv => arg 12; whnf); refine HoldsDP.mk rfl (by first | trivial | (simp; done) | (simp; omega) | omega) ?_)
    | (refine SemDr.end rfl ?_)
    | (refine SemW.cond rfl (fun c => ?_) (fun c => ?_))
    | (refine SemW.call rfl rfl func50 rfl rfl ?_; refine rown_spec f _ _ hs hb ⟨_, _, rfl, Nat.le_of_ble_eq_true rfl, ?_⟩)
    | (refine SemW.callP [2] rfl rfl func49 rfl rfl rfl (by decide) rfl rfl ?_; refine ask_spec f _ now _ _ hs ⟨⟨Nat.le_of_ble_eq_true rfl, Nat.le_of_ble_eq_true rfl⟩, ?_⟩)
    | (refine SemW.draw mixed rfl rfl ?_)
  all_goals first
    | (refine SemW.retD tyT_ok func13 rfl rfl (hQ (f, []) ?eq) rfl ?vc ?av; (case eq => clear hQ hs hb; unfold tickF tickB; simp only [*, Bool.or_true, Bool.true_or, Bool.or_false, Bool.false_or, Bool.and_true, Bool.true_and, Bool.and_false, Bool.false_and, Bool.not_true, Bool.not_false, if_true, if_false, Bool.false_eq_true]; done); (case av => exact AvLe.tup ⟨AvLe.refl _, AvLe.nil _ _ _ _, trivial⟩); (case vc => repeat' first | exact trivial | refine And.intro ?_ ?_))
    | (refine SemW.retD tyT_ok func13 rfl rfl (hQ (askF f (onAt f) now) ?eq) rfl ?vc ?av; (case eq => clear hQ hs hb; unfold tickF tickB; simp only [*, Bool.or_true, Bool.true_or, Bool.or_false, Bool.false_or, Bool.and_true, Bool.true_and, Bool.and_false, Bool.false_and, Bool.not_true, Bool.not_false, if_true, if_false, Bool.false_eq_true]; done); (case av => exact AvLe.tup ⟨AvLe.refl _, AvLe.refl _, trivial⟩); (case vc => repeat' first | exact trivial | refine And.intro ?_ ?_))
def movedB (f : Fe) (l : Le) : Bool := (f.done != 1 && l.id == f.ledger) && (mayLB l && !(decide (setL l.frags l.w f.n = f.set)))
def movedF (f : Fe) (now : Int) (l : Le) : Fe × List Rq := if movedB f l then askF { f with set := setL l.frags l.w f.n } 0 now else (f, [])
theorem rmoved_spec (f : Fe) (now : Int) (l : Le) (h : Hp) (Q : AV → Hp → List Blk → Prop) (hs : f.set.length < 2^40) (hb : f.body.length < 2^40) (hl : l.frags.length < 2^40) (hf : ∀ f ∈ l.frags, f.books.length < 2^40 ∧ 0 ≤ f.first) (hn : f.n ≤ 18446744073709551615)
    (hQ : ∀ x, x = movedF f now l → Q (.tup [encFe x.1, sQ x.2]) h []) : SemC Try.prog 17 [encFe f, au now, encL l] h Q := by
  have hsl := setL_lt40 (w := l.w) (n := f.n) (fun f hm => (hf f hm).1)
  refine SemC.enter func17 rfl (Nat.le_of_ble_eq_true rfl) fresh fresh_nodup ?_
  refine SemW.entT rfl ?_
  repeat' first
    | contradiction
    | (refine SemW.splitG rfl (fun c => ?_) (fun c => ?_) <;> (fail_if_success (cases c; done)))
    | (refine SemDr.splitG rfl (fun c => ?_) (fun c => ?_) <;> (fail_if_success (cases c; done)))
    | (refine SemW.goP tyT_ok mixed ?_; (conv => arg 8; whnf); refine HoldsP.mk rfl (by first | trivial | (simp; done) | (simp; omega) | omega) ?_)
    | (refine SemDr.goP tyT_ok ?_; (conv => arg 12; whnf); refine HoldsDP.mk rfl (by first | trivial | (simp; done) | (simp; omega) | omega) ?_)
    | (refine SemDr.end rfl ?_)
    | (refine SemW.cond rfl (fun c => ?_) (fun c => ?_))
    | (refine SemW.call rfl rfl func50 rfl rfl ?_; refine rown_spec f _ _ hs hb ⟨_, _, rfl, Nat.le_of_ble_eq_true rfl, ?_⟩)
    | (refine SemW.call0 rfl rfl func48 rfl rfl ?_; refine set_spec l.frags l.w f.n _ _ (by omega) hf hn ⟨rfl, rfl, _, rfl, rfl, rfl, ?_⟩)
    | (refine SemDr.call0 rfl func48 rfl rfl ?_; refine set_spec l.frags l.w f.n _ _ (by omega) hf hn ⟨rfl, rfl, _, rfl, rfl, rfl, ?_⟩)
    | (refine SemW.call0 rfl rfl func47 rfl rfl ?_; refine mayLedger_spec l _ _ hl (fun f hm => (hf f hm).1) ⟨rfl, rfl, _, rfl, rfl, rfl, ?_⟩)
    | (refine SemDr.call0 rfl func47 rfl rfl ?_; refine mayLedger_spec l _ _ hl (fun f hm => (hf f hm).1) ⟨rfl, rfl, _, rfl, rfl, rfl, ?_⟩)
    | (refine SemW.call0 rfl rfl func55 rfl rfl ?_; refine equalP_spec (setL l.frags l.w f.n) f.set _ _ (by omega) ⟨rfl, rfl, _, rfl, rfl, rfl, ?_⟩)
    | (refine SemDr.call0 rfl func55 rfl rfl ?_; refine equalP_spec (setL l.frags l.w f.n) f.set _ _ (by omega) ⟨rfl, rfl, _, rfl, rfl, rfl, ?_⟩)
    | (refine SemW.callP [3] rfl rfl func49 rfl rfl rfl (by decide) rfl rfl ?_; refine ask_spec { f with set := setL l.frags l.w f.n } _ now _ _ hsl ⟨⟨Nat.le_of_ble_eq_true rfl, Nat.le_of_ble_eq_true rfl⟩, ?_⟩)
    | (refine SemW.draw mixed rfl rfl ?_)
  all_goals first
    | (refine SemW.retD tyT_ok func17 rfl rfl (hQ (f, []) ?eq) rfl ?vc ?av; (case eq => clear hQ hs hb hl hf hn hsl; unfold movedF movedB; simp only [*, Bool.or_true, Bool.true_or, Bool.or_false, Bool.false_or, Bool.and_true, Bool.true_and, Bool.and_false, Bool.false_and, Bool.not_true, Bool.not_false, if_true, if_false, Bool.false_eq_true]; done); (case av => exact AvLe.tup ⟨AvLe.refl _, AvLe.nil _ _ _ _, trivial⟩); (case vc => repeat' first | exact trivial | refine And.intro ?_ ?_))
    | (refine SemW.retD tyT_ok func17 rfl rfl (hQ (askF { f with set := setL l.frags l.w f.n } 0 now) ?eq) rfl ?vc ?av; (case eq => clear hQ hs hb hl hf hn hsl; unfold movedF movedB; simp only [*, Bool.or_true, Bool.true_or, Bool.or_false, Bool.false_or, Bool.and_true, Bool.true_and, Bool.and_false, Bool.false_and, Bool.not_true, Bool.not_false, if_true, if_false, Bool.false_eq_true]; done); (case av => exact AvLe.tup ⟨AvLe.refl _, AvLe.refl _, trivial⟩); (case vc => repeat' first | exact trivial | refine And.intro ?_ ?_))
end Go.Proofs.Try
set_option linter.unusedVariables false
set_option linter.unusedSimpArgs false
open Go Go.AM
namespace Go.Proofs.Try
set_option maxRecDepth 100000
set_option maxHeartbeats 8000000
theorem place17_spec (n : Int) (h : Hp) (Q : AV → Hp → List Blk → Prop) (hQ : Q (encP ⟨n, 1⟩) h []) : SemC Try.prog 46 [aint n] h Q := by
  refine SemC.enter func46 rfl (Nat.le_of_ble_eq_true rfl) fresh fresh_nodup ?_
  refine SemW.entT rfl ?_
  refine SemW.go tyT_ok mixed ?_
  conv => arg 7; whnf
  refine Holds.mk (by first | (simp; done) | (simp; omega) | omega) ?_
  (refine SemW.ret0 tyT_ok func46 rfl rfl rfl ?_; refine cast (congrArg (fun r => Q r h []) ?_) hQ; clear hQ; rfl)
abbrev L3 : Le := ⟨1, 2, 2, [⟨1, [⟨7, 1⟩, ⟨8, 1⟩, ⟨9, 1⟩]⟩], 0, 0⟩
theorem three17_spec (h : Hp) (Q : AV → Hp → List Blk → Prop) (hQ : Q (encL L3) h []) : SemC Try.prog 44 [] h Q := by
  refine SemC.enter func44 rfl (Nat.le_of_ble_eq_true rfl) fresh fresh_nodup ?_
  refine SemW.entT rfl ?_
  repeat' first
    | contradiction
    | (refine SemW.splitG rfl (fun c => ?_) (fun c => ?_) <;> (fail_if_success (cases c; done)))
    | (refine SemDr.splitG rfl (fun c => ?_) (fun c => ?_) <;> (fail_if_success (cases c; done)))
    | (refine SemW.goP tyT_ok mixed ?_; (conv => arg 8; whnf); refine HoldsP.mk rfl (by first | trivial | (simp; done) | (simp; omega) | omega) ?_)
    | (refine SemDr.goP tyT_ok ?_; (conv => arg 12; whnf); refine HoldsDP.mk rfl (by first | trivial | (simp; done) | (simp; omega) | omega) ?_)
    | (refine SemDr.end rfl ?_)
    | (refine SemW.cond rfl (fun c => ?_) (fun c => ?_))
    | (refine SemW.call0 rfl rfl func46 rfl rfl ?_; refine place17_spec _ _ _ ⟨rfl, rfl, _, rfl, rfl, rfl, ?_⟩)
    | (refine SemDr.call0 rfl func46 rfl rfl ?_; refine place17_spec _ _ _ ⟨rfl, rfl, _, rfl, rfl, rfl, ?_⟩)
    | (refine SemW.draw mixed rfl rfl ?_)
  refine SemW.frzA 1 ?_
  conv => arg 7; whnf
  refine Holds.mk (by repeat' first | exact trivial | refine And.intro ?_ ?_ | exact rfl | exact Nat.le_refl _ | exact Nat.le_of_eq (Nat.zero_add _) | (simp [Blk.num, Blk.gen]; done) | (simp [Blk.num, Blk.gen]; omega)) ?_
  refine SemW.go tyT_ok mixed ?_
  conv => arg 7; whnf
  refine Holds.mk (by first | (simp; done) | (simp; omega) | omega) ?_
  refine SemW.retD tyT_ok func44 rfl rfl hQ rfl (by repeat' first | exact trivial | refine And.intro ?_ ?_ | exact rfl | exact Nat.le_refl _) (AvLe.agg ⟨AvLe.refl _, AvLe.refl _, AvLe.refl _, AvLe.vsW rfl (fun i hi => ?_), AvLe.refl _, AvLe.refl _, trivial⟩)
  have e : i = 0 := by omega
  subst e
  exact ⟨rfl, FLe.refl _, FLe.vs rfl (fun i hi => by rcases i with _ | _ | _ | i <;> first | rfl | omega), trivial⟩
def says17 (code node : Int) (b : List Int) : Re := ⟨⟨node, 1⟩, 3, code, 1, 2, 5, 0, b⟩
theorem says17_spec (code node : Int) (b : ByteArray) (h : Hp) (Q : AV → Hp → List Blk → Prop) (hQ : Q (encRe (says17 code node (b.data.toList.map fun x => (x.toNat : Int)))) h []) : SemC Try.prog 45 [aint code, aint node, .val (.string b)] h Q := by
  refine SemC.enter func45 rfl (Nat.le_of_ble_eq_true rfl) fresh fresh_nodup ?_
  refine SemW.entT rfl ?_
  repeat' first
    | contradiction
    | (refine SemW.splitG rfl (fun c => ?_) (fun c => ?_) <;> (fail_if_success (cases c; done)))
    | (refine SemDr.splitG rfl (fun c => ?_) (fun c => ?_) <;> (fail_if_success (cases c; done)))
    | (refine SemW.goP tyT_ok mixed ?_; (conv => arg 8; whnf); refine HoldsP.mk rfl (by first | trivial | (simp; done) | (simp; omega) | omega) ?_)
    | (refine SemDr.goP tyT_ok ?_; (conv => arg 12; whnf); refine HoldsDP.mk rfl (by first | trivial | (simp; done) | (simp; omega) | omega) ?_)
    | (refine SemDr.end rfl ?_)
    | (refine SemW.cond rfl (fun c => ?_) (fun c => ?_))
    | (refine SemW.call0 rfl rfl func46 rfl rfl ?_; refine place17_spec _ _ _ ⟨rfl, rfl, _, rfl, rfl, rfl, ?_⟩)
    | (refine SemDr.call0 rfl func46 rfl rfl ?_; refine place17_spec _ _ _ ⟨rfl, rfl, _, rfl, rfl, rfl, ?_⟩)
    | (refine SemW.draw mixed rfl rfl ?_)
  have eb : (b.data.toList.map fun x => (x.toNat : Int)).length = b.size := by simp
  refine SemW.retD tyT_ok func45 rfl rfl hQ rfl (by repeat' first | exact trivial | refine And.intro ?_ ?_ | exact rfl | exact Nat.le_refl _ | exact Nat.le_of_eq (Nat.zero_add _)) (AvLe.agg ⟨AvLe.refl _, AvLe.refl _, AvLe.refl _, AvLe.refl _, AvLe.refl _, AvLe.refl _, AvLe.refl _, AvLe.refl _, AvLe.vsW eb.symm (fun i hi => ?_), trivial⟩)
  have e : (b.data.toList.map fun x => (x.toNat : Int)).getD i 0 = ((b.data.getD i 0).toNat : Int) := by
    rw [show b.data.getD i 0 = b.data.toList.getD i 0 by simp [Array.getD_eq_getD_getElem?, List.getD_eq_getElem?_getD]]
    simp only [List.getD_eq_getElem?_getD, List.getElem?_map]
    cases b.data.toList[i]? <;> rfl
  show ELe (ab ((b.data.getD (0 + i) 0).toNat : Int)) (ab _)
  rw [Nat.zero_add]
  exact ELe.of (congrArg ab e.symm)
end Go.Proofs.Try
set_option linter.unusedVariables false
set_option linter.unusedSimpArgs false
open Go Go.AM
namespace Go.AM
/-- what a reader's law plays: what happens, who owns the answer, when, the answer, the ledger -/
structure Ca where
  what : Int
  own : Int
  now : Int
  resp : Re
  led : Le
  deriving DecidableEq
abbrev C0 : Ca := ⟨0, 0, 0, ⟨⟨0, 0⟩, 0, 0, 0, 0, 0, 0, []⟩, L0⟩
instance : Inhabited Ca := ⟨C0⟩
def encCa (c : Ca) : AV := .agg [aint c.what, aint c.own, au c.now, aint c.resp.src.node, au c.resp.src.serial, aint c.resp.kind, aint c.resp.code, au c.resp.ledger, au c.resp.n, au c.resp.epoch, au c.resp.sure, sB c.resp.body,
  au c.led.id, aint c.led.w, aint c.led.a, sF c.led.frags, aint c.led.closed, au c.led.last]
def sCa (l : List Ca) : AV := .vs true 18 l.length (fun i => encCa (l.getD i C0))
def hvCa (c : Ca) : Bool := decide ((c.resp.body.length : Int) > 5000) || longF c.led.frags
def heavy17 (l : Le) (cs : List Ca) : Bool := (decide ((cs.length : Int) > 200) || longF l.frags) || (List.range cs.length).any fun i => hvCa (cs.getD i C0)
end Go.AM
set_option linter.unusedVariables false
set_option linter.unusedSimpArgs false
open Go Go.AM
namespace Go.Proofs.Try
set_option maxRecDepth 100000
set_option maxHeartbeats 8000000
theorem same17_spec (f : Fe) (h : Hp) (Q : AV → Hp → List Blk → Prop) (hs : f.set.length < 2^40) (hQ : Q (abool true) h []) : SemC Try.prog 18 [encFe f, encFe f] h Q := by
  refine SemC.enter func18 rfl (Nat.le_of_ble_eq_true rfl) fresh fresh_nodup ?_
  refine SemW.entT rfl ?_
  repeat' first
    | contradiction
    | (refine SemW.splitG rfl (fun c => ?_) (fun c => ?_) <;> (fail_if_success (cases c; done)))
    | (refine SemDr.splitG rfl (fun c => ?_) (fun c => ?_) <;> (fail_if_success (cases c; done)))
    | (refine SemW.goP tyT_ok mixed ?_; (conv => arg 8; whnf); refine HoldsP.mk rfl (by first | trivial | (simp; done) | (simp; omega) | omega) ?_)
    | (refine SemDr.goP tyT_ok ?_; (conv => arg 12; whnf); refine HoldsDP.mk rfl (by first | trivial | (simp; done) | (simp; omega) | omega) ?_)
    | (refine SemDr.end rfl ?_)
    | (refine SemW.cond rfl (fun c => ?_) (fun c => ?_))
    | (refine SemW.call0 rfl rfl func14 rfl rfl ?_; refine same_spec f.set f.set _ _ (by omega) ⟨rfl, rfl, _, rfl, rfl, rfl, ?_⟩)
    | (refine SemDr.call0 rfl func14 rfl rfl ?_; refine same_spec f.set f.set _ _ (by omega) ⟨rfl, rfl, _, rfl, rfl, rfl, ?_⟩)
    | (refine SemW.draw mixed rfl rfl ?_)
  all_goals try (exfalso; clear hQ; simp_all; done)
  (refine SemW.ret0 tyT_ok func18 rfl rfl rfl ?_; refine cast (congrArg (fun r => Q r h []) ?_) hQ; clear hQ; (simp [AV.ren]; done))
theorem heavy17_spec (l : Le) (cs : List Ca) (h : Hp) (Q : AV → Hp → List Blk → Prop) (hl : l.frags.length < 2^40) (hc : cs.length < 2^40) (hb : ∀ c ∈ cs, c.led.frags.length < 2^40) (hQ : Q (abool (heavy17 l cs)) h []) : SemC Try.prog 10 [encL l, sCa cs] h Q := by
  refine SemC.enter func10 rfl (Nat.le_of_ble_eq_true rfl) fresh fresh_nodup ?_
  refine SemW.entT rfl ?_
  unfold heavy17 at hQ
  repeat' first
    | contradiction
    | (refine SemW.splitG rfl (fun c => ?_) (fun c => ?_) <;> (fail_if_success (cases c; done)))
    | (refine SemDr.splitG rfl (fun c => ?_) (fun c => ?_) <;> (fail_if_success (cases c; done)))
    | (refine SemW.goP tyT_ok mixed ?_; (conv => arg 8; whnf); refine HoldsP.mk rfl (by first | trivial | (simp; done) | (simp; omega) | omega) ?_)
    | (refine SemDr.goP tyT_ok ?_; (conv => arg 12; whnf); refine HoldsDP.mk rfl (by first | trivial | (simp; done) | (simp; omega) | omega) ?_)
    | (refine SemDr.end rfl ?_)
    | (refine SemW.cond rfl (fun c => ?_) (fun c => ?_))
    | (refine SemW.call0 rfl rfl func38 rfl rfl ?_; refine longFrags_spec l.frags _ _ (by omega) ⟨rfl, rfl, _, rfl, rfl, rfl, ?_⟩)
    | (refine SemDr.call0 rfl func38 rfl rfl ?_; refine longFrags_spec l.frags _ _ (by omega) ⟨rfl, rfl, _, rfl, rfl, rfl, ?_⟩)
    | (refine SemW.draw mixed rfl rfl ?_)
  all_goals try
    (refine SemW.ret0 tyT_ok func10 rfl rfl rfl ?_; refine cast (congrArg (fun r => Q r h []) ?_) hQ; clear hQ; (simp_all [AV.ren]; done))
  have hA : (decide ((cs.length : Int) > 200) || longF l.frags) = false := by clear hQ; simp_all
  rw [hA, Bool.false_or] at hQ
  refine SemW.loopG (X := {i : Nat // i ≤ cs.length ∧ ((List.range i).any fun i => hvCa (cs.getD i C0)) = false}) (fun x => [(5, aint x.1)]) (fun x => []) (fun x => cs.length - x.1) (⟨0, Nat.zero_le _, rfl⟩) ?_
  conv => arg 15; whnf
  refine LoopC.mk ?sT ?sL (by decide) rfl rfl rfl ?_
  case sT => repeat' first | exact trivial | refine And.intro ?_ ?_ | (first | exact AvLe.of (incI (by omega)) | exact AvLe.of (incU (by omega)) | exact AvLe.of (decI (by omega)) | exact AvLe.refl _ | exact AvLe.sl (by first | rfl | (simp; done) | omega) (by first | exact Nat.le_refl _ | (simp; done) | omega) (by first | exact Nat.le_refl _ | (simp; done) | (simp; omega) | omega))
  case sL => repeat' first | exact trivial | refine And.intro ?_ ?_ | exact ⟨_, rfl, BlkLe.refl _⟩ | exact ⟨_, rfl, BlkLe.arr (by simp; done) (app1P rfl)⟩ | exact ⟨_, rfl, BlkLe.arr (by simp; done) (app1E rfl)⟩ | exact ⟨_, rfl, BlkLe.arr (by simp; done) (fun j _ => by simp [blt_zero]; done)⟩
  rintro ⟨i, hi, ha⟩ IH
  dsimp only at hi ha IH ⊢
  refine SemW.go tyT_ok mixed ?_
  conv => arg 7; whnf
  refine Holds.mk (by first | (simp; done) | (simp; omega) | omega) ?_
  refine SemW.cond rfl (fun c1 => ?_) (fun c1 => ?_)
  · have hil : i < cs.length := by simpa using c1
    have hbi := hb (cs.getD i C0) (by simp [hil])
    repeat' first
      | contradiction
      | (refine SemW.splitG rfl (fun c => ?_) (fun c => ?_) <;> (fail_if_success (cases c; done)))
      | (refine SemDr.splitG rfl (fun c => ?_) (fun c => ?_) <;> (fail_if_success (cases c; done)))
      | (refine SemW.goP tyT_ok mixed ?_; (conv => arg 8; whnf); refine HoldsP.mk rfl (by first | trivial | (simp; done) | (simp; omega) | omega) ?_)
      | (refine SemDr.goP tyT_ok ?_; (conv => arg 12; whnf); refine HoldsDP.mk rfl (by first | trivial | (simp; done) | (simp; omega) | omega) ?_)
      | (refine SemDr.end rfl ?_)
      | (refine SemW.cond rfl (fun c => ?_) (fun c => ?_))
      | (refine SemW.call0 rfl rfl func38 rfl rfl ?_; refine longFrags_spec (cs.getD i C0).led.frags _ _ (by omega) ⟨rfl, rfl, _, rfl, rfl, rfl, ?_⟩)
      | (refine SemDr.call0 rfl func38 rfl rfl ?_; refine longFrags_spec (cs.getD i C0).led.frags _ _ (by omega) ⟨rfl, rfl, _, rfl, rfl, rfl, ?_⟩)
      | (refine SemW.draw mixed rfl rfl ?_)
    all_goals try
      (refine SemW.ret0 tyT_ok func10 rfl rfl rfl ?_; refine cast (congrArg (fun r => Q r h []) ?_) hQ; clear hQ; (rw [any_true hil (show hvCa (cs.getD i C0) = true by simp_all [hvCa])]; rfl))
    have hf : hvCa (cs.getD i C0) = false := by clear hQ IH; simp_all [hvCa]
    refine SemW.back (IH ⟨i + 1, hil, any_succ ha hf⟩ (by show cs.length - (i + 1) < cs.length - i; omega)) ?bT ?bL rfl rfl (by decide) rfl rfl rfl
    case bT => repeat' first | exact trivial | refine And.intro ?_ ?_ | (first | exact AvLe.of (incI (by omega)) | exact AvLe.of (incU (by omega)) | exact AvLe.of (decI (by omega)) | exact AvLe.refl _ | exact AvLe.sl (by first | rfl | (simp; done) | omega) (by first | exact Nat.le_refl _ | (simp; done) | omega) (by first | exact Nat.le_refl _ | (simp; done) | (simp; omega) | omega))
    case bL => repeat' first | exact trivial | refine And.intro ?_ ?_ | exact ⟨_, rfl, BlkLe.refl _⟩ | exact ⟨_, rfl, BlkLe.arr (by simp; done) (app1P rfl)⟩ | exact ⟨_, rfl, BlkLe.arr (by simp; done) (app1E rfl)⟩ | exact ⟨_, rfl, BlkLe.arr (by simp; done) (fun j _ => by simp [blt_zero]; done)⟩
  · obtain rfl : i = cs.length := by simp at c1; omega
    rw [ha] at hQ
    refine SemW.go tyT_ok mixed ?_
    conv => arg 7; whnf
    refine Holds.mk (by first | (simp; done) | (simp; omega) | omega) ?_
    (refine SemW.ret0 tyT_ok func10 rfl rfl rfl ?_; refine cast (congrArg (fun r => Q r h []) ?_) hQ; clear hQ; rfl)
def A0 : Fe := ⟨1, 2, [⟨8, 1⟩, ⟨9, 1⟩], 0, 3, 5, 0, []⟩
def A1 : Fe := { A0 with at_ := 1 }
def A2 : Fe := { A0 with since := 6 }
def A3 : Fe := { A2 with done := 1, body := [120] }
def Aq (p : Pl) : Rq := ⟨p, 3, 1, 2, 5, 0, 0, [], []⟩
theorem an : newF L3 2 5 3 = (A0, [Aq ⟨8, 1⟩], 0) := by decide +kernel
theorem a1 : takeF A0 3 (says17 3 9 []) = (A0, []) := by decide +kernel
theorem a2 : takeF A0 3 (says17 3 8 []) = (A1, [Aq ⟨9, 1⟩]) := by decide +kernel
theorem a3 : tickF A1 5 = (A1, []) := by decide +kernel
theorem a4 : tickF A1 6 = (A2, [Aq ⟨8, 1⟩]) := by decide +kernel
theorem a5 : takeF A2 6 (says17 0 9 [120]) = (A3, []) := by decide +kernel
theorem awake17_spec (h : Hp) (Q : AV → Hp → List Blk → Prop) (hQ : Q (abool true) h []) : SemC Try.prog 11 [] h Q := by
  refine SemC.enter func11 rfl (Nat.le_of_ble_eq_true rfl) fresh fresh_nodup ?_
  refine SemW.entT rfl ?_
  repeat' first
    | contradiction
    | (refine SemW.splitG rfl (fun c => ?_) (fun c => ?_) <;> (fail_if_success (cases c; done)))
    | (refine SemDr.splitG rfl (fun c => ?_) (fun c => ?_) <;> (fail_if_success (cases c; done)))
    | (refine SemW.goP tyT_ok mixed ?_; (conv => arg 8; whnf); refine HoldsP.mk rfl (by first | trivial | (simp; done) | (simp; omega) | omega) ?_)
    | (refine SemDr.goP tyT_ok ?_; (conv => arg 12; whnf); refine HoldsDP.mk rfl (by first | trivial | (simp; done) | (simp; omega) | omega) ?_)
    | (refine SemDr.end rfl ?_)
    | (refine SemW.cond rfl (fun c => ?_) (fun c => ?_))
    | (refine SemW.call0 rfl rfl func44 rfl rfl ?_; refine three17_spec _ _ ⟨rfl, rfl, _, rfl, rfl, rfl, ?_⟩)
    | (refine SemDr.call0 rfl func44 rfl rfl ?_; refine three17_spec _ _ ⟨rfl, rfl, _, rfl, rfl, rfl, ?_⟩)
    | (refine SemW.call0 rfl rfl func12 rfl rfl ?_; refine rnew_spec L3 2 5 3 _ _ (by decide) (by decide) (by decide) ?_; rw [an]; refine ⟨rfl, rfl, _, rfl, rfl, rfl, ?_⟩)
    | (refine SemW.call0 rfl rfl func45 rfl rfl ?_; refine says17_spec _ _ _ _ _ ⟨rfl, rfl, _, rfl, rfl, rfl, ?_⟩)
    | (refine SemDr.call0 rfl func45 rfl rfl ?_; refine says17_spec _ _ _ _ _ ⟨rfl, rfl, _, rfl, rfl, rfl, ?_⟩)
    | (refine SemW.call0 rfl rfl func46 rfl rfl ?_; refine place17_spec _ _ _ ⟨rfl, rfl, _, rfl, rfl, rfl, ?_⟩)
    | (refine SemDr.call0 rfl func46 rfl rfl ?_; refine place17_spec _ _ _ ⟨rfl, rfl, _, rfl, rfl, rfl, ?_⟩)
    | (refine SemDr.call0 rfl func16 rfl rfl ?_; refine rtake_spec A0 3 (says17 3 9 []) _ _ (by decide) (by decide) (by decide) (fun x hx => ?_); obtain rfl := hx.trans a1; refine ⟨rfl, rfl, _, rfl, rfl, rfl, ?_⟩)
    | (refine SemDr.call0 rfl func16 rfl rfl ?_; refine rtake_spec A0 3 (says17 3 8 []) _ _ (by decide) (by decide) (by decide) (fun x hx => ?_); obtain rfl := hx.trans a2; refine ⟨rfl, rfl, _, rfl, rfl, rfl, ?_⟩)
    | (refine SemW.call0 rfl rfl func13 rfl rfl ?_; refine rtick_spec A1 5 _ _ (by decide) (by decide) (fun x hx => ?_); obtain rfl := hx.trans a3; refine ⟨rfl, rfl, _, rfl, rfl, rfl, ?_⟩)
    | (refine SemW.call0 rfl rfl func13 rfl rfl ?_; refine rtick_spec A1 6 _ _ (by decide) (by decide) (fun x hx => ?_); obtain rfl := hx.trans a4; refine ⟨rfl, rfl, _, rfl, rfl, rfl, ?_⟩)
    | (refine SemDr.call0 rfl func16 rfl rfl ?_; refine rtake_spec A2 6 (says17 0 9 [120]) _ _ (by decide) (by decide) (by decide) (fun x hx => ?_); obtain rfl := hx.trans a5; refine ⟨rfl, rfl, _, rfl, rfl, rfl, ?_⟩)
    | (refine SemW.draw mixed rfl rfl ?_)
  (refine SemW.ret0 tyT_ok func11 rfl rfl rfl ?_; refine cast (congrArg (fun r => Q r h []) ?_) hQ; clear hQ; (exact congrArg abool (show true = _ by decide +kernel)))
/-- what every step of a reader keeps -/
structure StepOk (f f' : Fe) (q : List Rq) (src : Pl) : Prop where
  n : f'.n = f.n
  set : f'.set.length < 2^40
  body : f'.body.length < 2^40
  done : f.done = 1 → f' = f ∧ q = []
  len : q.length ≤ 1
  one : q.length = 1 → 0 ≤ f'.at_ ∧ f'.at_ < f'.set.length ∧ (q.getD 0 Q0).dst = f'.set.getD f'.at_.toNat P0 ∧ (q.getD 0 Q0).n = f'.n
  src : f'.done = 1 → f.done ≠ 1 → f.set.any (· == src) = true
theorem StepOk.refl {f : Fe} {src : Pl} (hs : f.set.length < 2^40) (hb : f.body.length < 2^40) : StepOk f f [] src := ⟨rfl, hs, hb, fun _ => ⟨rfl, rfl⟩, by simp, by simp, fun h h' => absurd h h'⟩
theorem askF_ok {f g : Fe} {a t : Int} {src : Pl} (hd : f.done ≠ 1) (hg : g.done = f.done) (hn : g.n = f.n) (hs : g.set.length < 2^40) (hb : g.body.length < 2^40) : StepOk f (askF g a t).1 (askF g a t).2 src := by
  unfold askF
  split
  · rename_i h
    exact ⟨hn, hs, hb, fun h => absurd h hd, by simp, by simp, fun h h' => absurd (hg ▸ h) h'⟩
  · rename_i h
    have := ask_at a h
    exact ⟨hn, hs, hb, fun h => absurd h hd, by simp, fun _ => ⟨this.1, this.2, rfl, rfl⟩, fun h h' => absurd (hg ▸ h) h'⟩
theorem takeF_ok {f : Fe} {t : Int} {r : Re} (hs : f.set.length < 2^40) (hb : f.body.length < 2^40) (hr : r.body.length < 2^40) : StepOk f (takeF f t r).1 (takeF f t r).2 r.src := by
  unfold takeF
  split
  · exact StepOk.refl hs hb
  · rename_i h
    have hd : f.done ≠ 1 := by intro e; apply h; unfold leftB; simp [e]
    split
    · split
      · rename_i h2
        exact ⟨rfl, hs, hr, fun h => absurd h hd, by simp, by simp, fun _ _ => h2⟩
      · exact StepOk.refl hs hb
    · split
      · split
        · exact askF_ok hd rfl rfl hs hb
        · exact StepOk.refl hs hb
      · split
        · exact askF_ok hd rfl rfl hs hb
        · exact StepOk.refl hs hb
theorem tickF_ok {f : Fe} {t : Int} (src : Pl) (hs : f.set.length < 2^40) (hb : f.body.length < 2^40) : StepOk f (tickF f t).1 (tickF f t).2 src := by
  unfold tickF
  split
  · rename_i h
    exact askF_ok (by intro e; simp [tickB, e] at h) rfl rfl hs hb
  · exact StepOk.refl hs hb
theorem movedF_ok {f : Fe} {t : Int} {l : Le} (src : Pl) (hs : f.set.length < 2^40) (hb : f.body.length < 2^40) (hl : ∀ f ∈ l.frags, f.books.length < 2^40) : StepOk f (movedF f t l).1 (movedF f t l).2 src := by
  unfold movedF
  split
  · rename_i h
    exact askF_ok (by intro e; simp [movedB, e] at h) rfl rfl (setL_lt40 hl) hb
  · exact StepOk.refl hs hb
theorem newF_ok {l : Le} {n tag now : Int} (hl : ∀ f ∈ l.frags, f.books.length < 2^40) (h : ((newF l n tag now).2.2 != 0) = false) : (newF l n tag now).1.n = n ∧ (newF l n tag now).1.set.length < 2^40 ∧ (newF l n tag now).1.body.length < 2^40 := by
  unfold newF at h ⊢
  split at h
  · rename_i ho
    rw [if_pos ho]
    have := askF_ok (f := newFe l n tag) (g := newFe l n tag) (a := 0) (t := now) (src := P0) (by simp [newFe]) rfl rfl (setL_lt40 hl) (by simp [newFe])
    exact ⟨this.n, this.set, this.body⟩
  · simp at h
end Go.Proofs.Try
set_option linter.unusedVariables false
set_option linter.unusedSimpArgs false
open Go Go.AM
namespace Go.AM
section
variable {P : Program} {fid : Nat} {fn : Func} {Q : AV → Hp → List Blk → Prop} {h : Hp} {Kt : Trk}
/-- at most n steps -/
theorem SemW.goN {ty : TypeId → TI} (hty : TyOk P ty) (n : Nat) {ks : List Item} {T : Tm} {L : Lh} {fr : List Nat} (hr : Holds P fid fn Kt Q h (adv ty fn.ntmps n ks T L fr True)) : SemW P fid fn Kt Q h ks T L fr := (adv_sound hty n ks T L fr True hr).2
/-- blocks, each told once -/
def ddB : List Nat → Lh → Lh
  | _, [] => []
  | s, (k, b) :: L => bif s.any (Nat.beq k) then ddB s L else (k, b) :: ddB (k :: s) L
theorem ddB_le : ∀ (L L0 : Lh) (s : List Nat), (∀ k, s.any (Nat.beq k) = false → getB L k = getB L0 k) → leBw (ddB s L) L0
  | [], _, _, _ => trivial
  | (k, b) :: L, L0, s, h => by
    unfold ddB
    cases hs : s.any (Nat.beq k) with
    | true =>
      refine ddB_le L L0 s fun j hj => ?_
      rw [← h j hj]
      have : Nat.beq k j = false := by
        cases e : Nat.beq k j with
        | false => rfl
        | true => rw [Nat.eq_of_beq_eq_true e] at hs; rw [hs] at hj; cases hj
      show getB L j = bif Nat.beq k j then some b else getB L j
      rw [this]
      rfl
    | false =>
      refine ⟨⟨b, ?_, BlkLe.refl b⟩, ddB_le L L0 (k :: s) fun j hj => ?_⟩
      · rw [← h k hs]
        show (bif Nat.beq k k then some b else getB L k) = some b
        rw [Nat.beq_refl]
        rfl
      · have hj' := hj
        rw [List.any_cons] at hj'
        simp only [Bool.or_eq_false_iff] at hj'
        rw [← h j hj'.2]
        have : Nat.beq k j = false := by
          cases e : Nat.beq k j with
          | false => rfl
          | true => rw [Nat.eq_of_beq_eq_true e, Nat.beq_refl] at hj'; cases hj'.1
        show getB L j = bif Nat.beq k j then some b else getB L j
        rw [this]
        rfl
theorem SemW.dd {ks : List Item} {T : Tm} {L : Lh} {fr : List Nat} (hh : SemW P fid fn Kt Q h ks T (ddB [] L) fr) : SemW P fid fn Kt Q h ks T L fr := by
  have hL := ddB_le L L [] fun _ _ => rfl
  intro E ι a w b cs h1 h2 h3 h4 h5 h6 h7 h8
  refine hh E ι a w b cs h1 h2 h3 h4 h5 (h6.rename (fun i => i) (fun i b hb => ?_) (fun _ _ _ _ _ _ e => e)) h7 h8
  cases i with
  | l k =>
    obtain ⟨b0, h0, hle⟩ := leBw_get hL k b hb
    exact ⟨b0, h0, rfl, hle _ _ _ _ (h6.ok (.l k) b0 h0)⟩
  | o i => exact ⟨b, hb, rfl, h6.ok (.o i) b hb⟩
  | n j => simp [hp] at hb
end
theorem putCells_at : ∀ (vs pre post : List AV), ∀ cs : List AV, cs.length = vs.length → putCells (pre ++ cs ++ post) pre.length vs = pre ++ vs ++ post
  | [], pre, post, cs, h => by
    have : cs = [] := by cases cs with
      | nil => rfl
      | cons _ _ => cases h
    subst this
    rfl
  | v :: vs, pre, post, cs, h => by
    cases cs with
    | nil => cases h
    | cons c cs =>
      show putCells ((pre ++ c :: cs ++ post).set pre.length v) (pre.length + 1) vs = _
      have e : (pre ++ c :: cs ++ post).set pre.length v = (pre ++ [v]) ++ cs ++ post := by
        simp [List.set_append]
      have e2 : pre.length + 1 = (pre ++ [v]).length := by simp
      rw [e, e2, putCells_at vs (pre ++ [v]) post cs (by simpa using h)]
      simp
/-- all cells are written -/
theorem putCells_full {cs vs : List AV} (h : cs.length = vs.length) : putCells cs 0 vs = vs := by
  have := putCells_at vs [] [] cs h
  simpa using this
end Go.AM
