/- Part 3 of the proof of the row StripeRenews: written for this claim by the session and by a program of its own. -/
import Derived.Test.YtipjnfljkknmgaaCStripeRenewsp2
import Derived.Test.YtipjnfljkknmgaaProg
import Derived.Test.YtipjnfljkknmgaaChecked
set_option linter.unusedVariables false
set_option linter.unusedSimpArgs false
namespace Go.AM
variable {P : Program}
def noN (ι : Io) : Io := fun i => match i with | .n _ => [] | i => ι i
def PostM (E : Env) (ι : Io) (w' : World) (v : Value) (h : Hp) (Q : AV → List Blk → Prop) : Prop :=
  ∃ E' ι' r N, E.le E' ∧ (∀ (i : Id) (g : Nat) (loc : Loc), (∀ j, i ≠ .n j) → (ι i)[g]? = some loc → (ι' i)[g]? = some loc) ∧ (∀ i, ι i = [] → (∀ j, i ≠ .n j) → ι' i = []) ∧ (∀ j, N.length ≤ j → ι' (.n j) = []) ∧ Den E' ι' (hpC h N) w' ∧ Rel E' ι' r v ∧ Q r N
/-- Called with these, and with the blocks bs (named .n) for good. -/
def SemCM (P : Program) (f : FuncId) (args : List AV) (bs : List Blk) (h : Hp) (Q : AV → List Blk → Prop) : Prop :=
  ∀ (E : Env) (ι : Io) (vs : Array Value) (w : World), Den E ι (hpC h bs) w → Den E (noN ι) h w → (∀ j, bs.length ≤ j → ι (.n j) = []) → args.length = vs.size → (∀ i, i < args.length → Rel E ι (args.getD i .bot) (vs.getD i undef)) →
    Calls P f vs w fun e w' => ∃ v, e = .returned v ∧ PostM E ι w' v h Q
theorem SemCM.mono {f : FuncId} {args : List AV} {bs : List Blk} {h : Hp} {Q Q' : AV → List Blk → Prop} (hh : SemCM P f args bs h Q) (hq : ∀ r N, Q r N → Q' r N) : SemCM P f args bs h Q' := by
  intro E ι vs w d d' hno hl hr
  refine (hh E ι vs w d d' hno hl hr).mono fun e w' he => ?_
  obtain ⟨v, rfl, E', ι', r, N, p1, p2, p3, p3n, p4, p5, h1⟩ := he
  exact ⟨v, rfl, E', ι', r, N, p1, p2, p3, p3n, p4, p5, hq _ _ h1⟩
def ent : Id → Id
  | .n j => .l j
  | i => .o i
def bsL (k : Nat) : List Blk → Lh
  | [] => []
  | b :: bs => (k, b.ren ent) :: bsL (k + 1) bs
theorem getB_bsL : ∀ (bs : List Blk) (k q : Nat), getB (bsL k bs) q = if k ≤ q then (bs[q - k]?).map (Blk.ren ent) else none
  | [], k, q => by simp [bsL, getB]
  | b :: bs, k, q => by
    simp only [bsL, getB]
    cases hb : Nat.beq k q with
    | true => have := Nat.eq_of_beq_eq_true hb; subst this; simp
    | false =>
      have hne : k ≠ q := fun e => by subst e; simp at hb
      simp only [cond_false]
      rw [getB_bsL bs (k + 1) q]
      by_cases h1 : k + 1 ≤ q
      · rw [if_pos h1, if_pos (by omega)]
        obtain ⟨m, rfl⟩ : ∃ m, q = k + 1 + m := ⟨q - (k + 1), by omega⟩
        rw [show k + 1 + m - (k + 1) = m by omega, show k + 1 + m - k = m + 1 by omega]
        simp
      · rw [if_neg h1, if_neg (by omega)]
theorem SemCM.enter {f : FuncId} {fn : Func} {c : Code} {args : List AV} {bs : List Blk} {h : Hp} {Q : AV → List Blk → Prop} (hf : P.funcs[f]? = some fn) (hb : fn.body = some c) (hn : args.length ≤ fn.ntmps) (fr : List Nat) (hnd : fr.Nodup) (hfr : ∀ n ∈ fr, bs.length ≤ n)
    (hh : SemW P f fn (fun r h' N => h' = h ∧ Q (r.ren down) (N.map (Blk.ren down))) h [.code c] (argT (renL ent args) 0) (bsL 0 bs) fr) : SemCM P f args bs h Q := by
  intro E ι vs w d dn hno hl hr cs
  let b : Frame := { (default : Frame) with fn := f, kind := .normal }
  have henter : Frame.enter P f vs .normal = b.at { tmps := vs ++ Array.replicate (fn.ntmps - vs.size) undef, defers := [] } [.code c] := by
    simp [Frame.enter, Frame.at, hf, hb, b]
  let ιc : Io := fun i => match i with | .o i => noN ι i | .l k => ι (.n k) | .n _ => []
  have hent : ∀ (id : Id) (g : Nat) (loc : Loc), (ι id)[g]? = some loc → (ιc (ent id))[g]? = some loc := by
    intro id g loc hh
    cases id with
    | n j => exact hh
    | o i => exact hh
    | l k => exact hh
  have hL : ∀ k b, getB (bsL 0 bs) k = some b → ∃ b0, bs[k]? = some b0 ∧ b = b0.ren ent := by
    intro k b hb
    rw [getB_bsL, if_pos (Nat.zero_le _), Nat.sub_zero, Option.map_eq_some_iff] at hb
    obtain ⟨b0, h0, rfl⟩ := hb
    exact ⟨b0, h0, rfl⟩
  have hnn : ∀ j, h (.n j) = none := fun j => dn.none rfl
  -- from a name here to the name there
  have dc : Den E ιc (hp h (bsL 0 bs)) w := by
    have back : ∀ i b, hp h (bsL 0 bs) i = some b → ∃ i0 b0, hpC h bs i0 = some b0 ∧ ιc i = ι i0 ∧ i = ent i0 := by
      intro i b hb
      cases i with
      | l k =>
        obtain ⟨b0, h0, _⟩ := hL k b hb
        exact ⟨.n k, b0, h0, rfl, rfl⟩
      | o i =>
        simp only [hp, Option.map_eq_some_iff] at hb
        obtain ⟨b0, h0, _⟩ := hb
        cases i with
        | n j => rw [hnn j] at h0; cases h0
        | o i => exact ⟨.o i, b0, h0, rfl, rfl⟩
        | l k => exact ⟨.l k, b0, h0, rfl, rfl⟩
      | n j => simp [hp] at hb
    constructor
    · exact d.kept
    · exact d.os
    · exact d.tape
    · exact d.output
    · intro i b hb
      cases i with
      | l k =>
        obtain ⟨b0, h0, rfl⟩ := hL k b hb
        exact BlkOk.ren' (id := .n k) (ι' := ιc) ent hent rfl (d.ok (.n k) b0 h0)
      | o i =>
        simp only [hp, Option.map_eq_some_iff] at hb
        obtain ⟨b0, h0, rfl⟩ := hb
        exact (dn.ok i b0 h0).ren' (ι' := ιc) .o (fun id g loc hh => hh) rfl
      | n j => simp [hp] at hb
    · intro i i' b b' k h1 h2 hne hk hk'
      obtain ⟨i0, b0, g1, g2, g3⟩ := back i b h1
      obtain ⟨i1, b1, k1, k2, k3⟩ := back i' b' h2
      refine d.apart i0 i1 b0 b1 k g1 k1 (fun e => hne (by rw [g3, k3, e])) ?_ ?_
      · unfold place at hk ⊢; rw [← g2]; exact hk
      · unfold place at hk' ⊢; rw [← k2]; exact hk'
    · intro i b k h1 hk
      obtain ⟨i0, b0, g1, g2, g3⟩ := back i b h1
      refine d.own i0 b0 k g1 ?_
      unfold place at hk ⊢; rw [← g2]; exact hk
  have hT : TOk E ιc (argT (renL ent args) 0) (vs ++ Array.replicate (fn.ntmps - vs.size) undef) := by
    intro t
    rw [get_argT, if_pos (Nat.zero_le _), Nat.sub_zero, renL_getD]
    by_cases ht : t < args.length
    · have := (hr t ht).ren' (ι' := ιc) ent hent
      have e : (vs ++ Array.replicate (fn.ntmps - vs.size) undef).getD t undef = vs.getD t undef := by
        have : t < vs.size := by omega
        simp [Array.getElem?_append_left this]
      rw [e]
      exact this
    · have : args.getD t .bot = .bot := by simp [List.getElem?_eq_none (Nat.le_of_not_lt ht)]
      rw [this]
      exact Rel.bot _
  obtain ⟨w', frm, v, s1, s2, s3, E', ι', r, h', N, p1, p2, p3, p4, p4n, p5, p6, rfl, p7⟩ := hh E ιc { tmps := vs ++ Array.replicate (fn.ntmps - vs.size) undef, defers := [] } w b cs rfl rfl rfl (by simp; omega) hT dc ⟨hnd, fun n hn => hno n (hfr n hn)⟩ (fun _ => rfl)
  rw [← henter] at s1
  refine ⟨.returned v, w', frm, ⟨v, rfl, ?_⟩, s1, s2, s3⟩
  have hon : ∀ j, ι' (.o (.n j)) = [] := fun j => p3 (.n j) rfl
  let ι2 : Io := fun i => match i with | .n j => ι' (.n j) | i => ι' (.o i)
  have e2 : ∀ i, (∀ j, i ≠ .n j) → ι2 i = ι' (.o i) := by
    intro i hi
    cases i with
    | n j => exact absurd rfl (hi j)
    | o i => rfl
    | l k => rfl
  have eN : ∀ i, (∀ j, i ≠ .n j) → ιc (.o i) = ι i := by
    intro i hi
    cases i with
    | n j => exact absurd rfl (hi j)
    | o i => rfl
    | l k => rfl
  have hren : ∀ (id : Id) (g : Nat) (loc : Loc), (ι' id)[g]? = some loc → (ι2 (down id))[g]? = some loc := by
    intro id g loc hh
    cases id with
    | o i =>
      show (ι2 i)[g]? = _
      cases i with
      | n j => rw [hon j] at hh; simp at hh
      | o i => exact hh
      | l k => exact hh
    | n j => exact hh
    | l k => rw [p4 k] at hh; simp at hh
  let up : Id → Id := fun i => match i with | .n j => .n j | i => .o i
  have up_down : ∀ i, down (up i) = i := fun i => by cases i <;> rfl
  have up_ι : ∀ i, ι2 i = ι' (up i) := fun i => by cases i <;> rfl
  have up_inj : ∀ i i', up i = up i' → i = i' := fun i i' e => by rw [← up_down i, e, up_down]
  have hup : ∀ i b, hpC h' (N.map (Blk.ren down)) i = some b → ∃ b0, hpN h' N (up i) = some b0 ∧ b = b0.ren down := by
    intro i b hb
    cases i with
    | n j =>
      simp only [hpC, List.getElem?_map, Option.map_eq_some_iff] at hb
      obtain ⟨b0, h0, rfl⟩ := hb
      exact ⟨b0, h0, rfl⟩
    | o i =>
      simp only [hpC] at hb
      refine ⟨b.ren .o, by simp [up, hpN, hb], ?_⟩
      rw [Blk.ren_ren]
      exact (Blk.ren_id _ (fun i => rfl) b).symm
    | l k =>
      simp only [hpC] at hb
      refine ⟨b.ren .o, by simp [up, hpN, hb], ?_⟩
      rw [Blk.ren_ren]
      exact (Blk.ren_id _ (fun i => rfl) b).symm
  refine ⟨E', ι2, r.ren down, N.map (Blk.ren down), p1, ?_, ?_, fun j hj => p4n j (by simpa using hj), ?_, p6.ren' down hren, p7⟩
  · intro i g loc hi hh
    rw [e2 i hi]
    exact p2 i g loc (by rw [eN i hi]; exact hh)
  · intro i hi hne
    rw [e2 i hne]
    exact p3 i (by rw [eN i hne]; exact hi)
  · constructor
    · exact p5.kept
    · exact p5.os
    · exact p5.tape
    · exact p5.output
    · intro i b hb
      obtain ⟨b0, h0, rfl⟩ := hup i b hb
      have := (p5.ok (up i) b0 h0).ren' (ι' := ι2) down hren (by rw [up_down, up_ι])
      rw [up_down] at this
      exact this
    · intro i i' b b' k h1 h2 hne hk hk'
      obtain ⟨b0, h0, _⟩ := hup i b h1
      obtain ⟨b1, h1', _⟩ := hup i' b' h2
      refine p5.apart (up i) (up i') b0 b1 k h0 h1' (fun e => hne (up_inj _ _ e)) ?_ ?_
      · unfold place at hk ⊢; rw [← up_ι]; exact hk
      · unfold place at hk' ⊢; rw [← up_ι]; exact hk'
    · intro i b k h1 hk
      obtain ⟨b0, h0, _⟩ := hup i b h1
      refine p5.own (up i) b0 k h0 ?_
      unfold place at hk ⊢; rw [← up_ι]; exact hk
section
variable {fid : FuncId} {fn : Func} {Q : AV → Hp → List Blk → Prop} {h : Hp}
theorem OpRun.callM {ops : Array Oper} {i : Nat} {o : Oper} {c : Call} {x : Operand} {caps vs : List AV} {T : Tm} {L L' : Lh} {fr mv : List Nat} {bs : List Blk} {f : FuncId} {g : Func} {R : AV → Hp → Lh → List Nat → Prop} (ho : ops[i]? = some o) (hw : ∀ (E : Env) (ι : Io) (a : Act), TOk E ι T a.tmps → Region.wanted o (yielded ops a.tmps) = true)
    (hop : o.op = .call c) (hcal : c.callee = .value x) (hx : ev T x = some (.fn f caps)) (hvs : evs T c.args.toList = some vs) (hf : P.funcs[f]? = some g) (hname : (g.name == "runtime.NumGoroutine") = false) (hb : g.body.isSome = true)
    (hbs : selB L mv = some bs) (hnd : mv.Nodup) (hmf : ∀ k ∈ mv, k ∉ fr) (hL : leB L' L) (aL : avoidB (memN mv) L' = true)
    (hh : SemCM P f (renL (si mv) (vs ++ caps)) (bs.map (Blk.ren (si mv))) (hp h L') fun r N => N.length ≤ fr.length ∧ R (r.ren (nu fr)) h (addN (nu fr) fr N (renB (nu fr) L')) (fr.drop N.length)) : OpRun P ops i o T h L fr R := by
  intro E ι a w b cs is rest q5 q6 q7 q8
  obtain ⟨cv, hcv, hcl, hcr⟩ := rel_fn (ev_rel q5 hx)
  obtain ⟨hvl, hvr⟩ := evs_rel q5 hvs
  have hrun := run_call hop hcal hcv hf hname hb w
  have hg := stepG_op (P := P) (b := b) (k := rest) (cs := cs) (w := w) (rest := is) ho (hw E ι a q5)
  have henter : Go.step P (lone (b.at a (.inRegion ops (i :: is) :: rest)) cs w) = .next (lone (Frame.enter P f (c.args.map a.eval ++ cv) .normal) (b.at a (.inRegion ops (i :: is) :: rest) :: cs) w) :=
    step_lone_go (by rw [hg]; simp [stepG.apply, hrun, Frame.at])
  have hfin : ∀ v, (b.at a (.inRegion ops (i :: is) :: rest)).finish v = b.at (a.put o.dst v) (.inRegion ops is :: rest) := by
    intro v; rw [Frame.finish_at, ho]; rfl
  have hargs : ∀ i, i < (vs ++ caps).length → Rel E ι ((vs ++ caps).getD i .bot) ((c.args.map a.eval ++ cv).getD i undef) := by
    intro i hi
    have hvl' : vs.length = c.args.size := by simpa using hvl
    by_cases hiv : i < vs.length
    · have e1 : (vs ++ caps).getD i .bot = vs.getD i .bot := by simp [List.getElem?_append_left hiv]
      have e2 : (c.args.map a.eval ++ cv).getD i undef = (c.args.toList.map a.eval).getD i undef := by
        have : i < (c.args.map a.eval).size := by simp; omega
        simp [Array.getElem?_append_left this]
      rw [e1, e2]
      exact hvr i hiv
    · have e1 : (vs ++ caps).getD i .bot = caps.getD (i - vs.length) .bot := by simp [List.getElem?_append_right (Nat.le_of_not_lt hiv)]
      have e2 : (c.args.map a.eval ++ cv).getD i undef = cv.getD (i - vs.length) undef := by
        have : (c.args.map a.eval).size ≤ i := by simp; omega
        simp [Array.getElem?_append_right this, hvl']
      rw [e1, e2]
      exact hcr _ (by simp at hi; omega)
  obtain ⟨hbl, hsel⟩ := selB_get hbs
  -- the names while the call runs
  let ιm : Io := fun i => match i with
    | .n j => match mv[j]? with | some k => ι (.l k) | none => []
    | .l k => if memN mv k then [] else ι (.l k)
    | .o i => ι (.o i)
  have hren1 : ∀ (id : Id) (g : Nat) (loc : Loc), (ι id)[g]? = some loc → (ιm (si mv id))[g]? = some loc := by
    intro id g loc hx
    cases id with
    | o i => exact hx
    | n j => rw [q8 j] at hx; simp at hx
    | l k =>
      cases hj : idx mv k with
      | some j => simp only [si, hj, ιm, idx_some hj]; exact hx
      | none =>
        have hm : memN mv k = false := by
          cases hm : memN mv k with
          | false => rfl
          | true => obtain ⟨j, hj'⟩ := idx_mem (memN_mem _ _ hm); rw [hj] at hj'; cases hj'
        simp only [si, hj, ιm, hm]; exact hx
  have hrenL : ∀ (id : Id) (g : Nat) (loc : Loc), (∀ k, id = .l k → memN mv k = false) → (ι id)[g]? = some loc → (noN ιm id)[g]? = some loc := by
    intro id g loc hp hx
    cases id with
    | o i => exact hx
    | n j => rw [q8 j] at hx; simp at hx
    | l k => simp only [noN, ιm, hp k rfl]; exact hx
  have oav : ∀ b0 : Blk, (b0.ren .o).avoid (memN mv) = true := by
    have key : ∀ a : AV, (a.ren .o).avoid (memN mv) = true := fun a =>
      AV.rec (motive_1 := fun a => (a.ren .o).avoid (memN mv) = true) (motive_2 := fun l => avoidL (memN mv) (renL .o l) = true) rfl (fun _ => rfl) (fun _ h => h) (fun _ h => h) (fun _ _ h => h) (fun _ _ => rfl) (fun _ _ _ _ _ => rfl) (fun _ _ _ _ _ => rfl) (fun _ _ _ _ _ _ => rfl) (fun _ _ _ _ _ => rfl) rfl (fun _ _ h1 h2 => by simp only [renL, avoidL, h1, h2]; rfl) a
    intro b0
    cases b0 with
    | obj cs =>
      simp only [Blk.ren, Blk.avoid]
      induction cs with
      | nil => rfl
      | cons c cs ih => simp only [renL, avoidL, key c, ih]; rfl
    | arr => rfl
  have dn : Den E (noN ιm) (hp h L') w := by
    refine q6.rename (fun i => i) (fun i b hb => ?_) (fun _ _ _ _ _ _ e => e)
    cases i with
    | l k =>
      have hb' := leB_get hL k b hb
      obtain ⟨q1, q2⟩ := avoidB_get _ _ _ _ aL hb
      have e : noN ιm (.l k) = ι (.l k) := by simp only [noN, ιm, q1]; rfl
      refine ⟨b, hb', e, ?_⟩
      have := BlkOk.ren (id := .l k) (ι' := noN ιm) (fun i => i) (memN mv) hrenL q2 e (q6.ok (.l k) b hb')
      rwa [Blk.ren_id _ (fun _ => rfl)] at this
    | o i =>
      refine ⟨b, hb, rfl, ?_⟩
      have hb' := hb
      simp only [hp, Option.map_eq_some_iff] at hb'
      obtain ⟨b0, hb0, rfl⟩ := hb'
      have := (q6.ok (.o i) _ hb).ren (ι' := noN ιm) (fun i => i) (memN mv) hrenL (oav b0) rfl
      rwa [Blk.ren_id _ (fun _ => rfl)] at this
    | n j => simp [hp] at hb
  have dm : Den E ιm (hpC (hp h L') (bs.map (Blk.ren (si mv)))) w := by
    refine q6.rename (fun i => match i with | .n j => .l (mv.getD j 0) | i => i) (fun i b hb => ?_) (fun i i' b b' hb hb' e => ?_)
    · cases i with
      | n j =>
        simp only [hpC, List.getElem?_map, Option.map_eq_some_iff] at hb
        obtain ⟨b0, hb0, rfl⟩ := hb
        obtain ⟨k, hk1, hk2⟩ := hsel j b0 hb0
        have e : mv.getD j 0 = k := by simp [hk1]
        refine ⟨b0, by simp only [e]; exact hk2, by simp only [ιm, hk1, e], ?_⟩
        have hj := idx_nodup hnd hk1
        have := BlkOk.ren' (id := .l k) (ι' := ιm) (si mv) hren1 (by simp only [si, hj, ιm, hk1]) (q6.ok (.l k) b0 hk2)
        simp only [si, hj] at this
        exact this
      | o i =>
        have hb' : hp h L' (.o i) = some b := hb
        have := dn.ok (.o i) b hb'
        refine ⟨b, hb', rfl, ?_⟩
        have h3 := BlkOk.ren' (ι := noN ιm) (ι' := ιm) (fun i => i) (fun id g loc x => by
          cases id with
          | n j => exact absurd x (by show ¬ (([] : List Loc)[g]? = some loc); simp)
          | o i => exact x
          | l k => exact x) rfl this
        rwa [Blk.ren_id _ (fun _ => rfl)] at h3
      | l k =>
        have hb' : hp h L' (.l k) = some b := hb
        have hb0 := leB_get hL k b hb'
        obtain ⟨q1, q2⟩ := avoidB_get _ _ _ _ aL hb'
        have := dn.ok (.l k) b hb'
        refine ⟨b, hb0, by simp only [ιm, q1]; rfl, ?_⟩
        have h3 := BlkOk.ren' (ι := noN ιm) (ι' := ιm) (fun i => i) (fun id g loc x => by
          cases id with
          | n j => exact absurd x (by show ¬ (([] : List Loc)[g]? = some loc); simp)
          | o i => exact x
          | l k => exact x) rfl this
        rwa [Blk.ren_id _ (fun _ => rfl)] at h3
    · have inmv : ∀ j b, hpC (hp h L') (bs.map (Blk.ren (si mv))) (.n j) = some b → ∃ k, mv[j]? = some k ∧ mv.getD j 0 = k := by
        intro j b hb
        simp only [hpC, List.getElem?_map, Option.map_eq_some_iff] at hb
        obtain ⟨b0, hb0, _⟩ := hb
        obtain ⟨k, hk1, _⟩ := hsel j b0 hb0
        exact ⟨k, hk1, by simp [hk1]⟩
      have notmv : ∀ k b, hpC (hp h L') (bs.map (Blk.ren (si mv))) (.l k) = some b → memN mv k = false := fun k b hb => (avoidB_get _ _ _ _ aL hb).1
      cases i with
      | n j =>
        obtain ⟨k, hk1, hk2⟩ := inmv j b hb
        cases i' with
        | n j' =>
          obtain ⟨k', hk1', hk2'⟩ := inmv j' b' hb'
          replace e := Id.l.inj e
          rw [hk2, hk2'] at e
          subst e
          have h1 := idx_nodup hnd hk1
          rw [idx_nodup hnd hk1'] at h1
          cases h1
          rfl
        | o i' => cases e
        | l k' =>
          exfalso
          have := notmv k' b' hb'
          replace e := Id.l.inj e
          rw [hk2] at e
          subst e
          rw [mem_memN (List.mem_of_getElem? hk1)] at this
          cases this
      | o i =>
        cases i' with
        | n j' => cases e
        | o i' => exact e
        | l k' => cases e
      | l k =>
        cases i' with
        | n j' =>
          exfalso
          obtain ⟨k', hk1', hk2'⟩ := inmv j' b' hb'
          have := notmv k b hb
          replace e := Id.l.inj e
          rw [hk2'] at e
          subst e
          rw [mem_memN (List.mem_of_getElem? hk1')] at this
          cases this
        | o i' => cases e
        | l k' => exact e
  obtain ⟨e, w1, frm1, ⟨v, rfl, E', ι', r, N, p1, p2, p3, p3n, p4, p5, hN, hW⟩, s1, s2, s3⟩ := hh E ιm (c.args.map a.eval ++ cv) w dm dn (fun j hj => by
      have : mv[j]? = none := List.getElem?_eq_none (by rw [← hbl]; simpa using hj)
      simp only [ιm, this]) (by rw [renL_length]; simp at hvl ⊢; omega) (fun i hi => by
      rw [renL_getD]
      rw [renL_length] at hi
      exact (hargs i hi).ren' (si mv) hren1) (b.at a (.inRegion ops (i :: is) :: rest) :: cs)
  let fr' := fr.take N.length
  have hfr' : ∀ j, j < N.length → fr'[j]? = some (fr.getD j 0) := by
    intro j hj
    have : j < fr.length := by omega
    simp [fr', hj, this]
  have hnd' : fr'.Nodup := (List.take_sublist _ _).nodup q7.1
  let ι2 : Io := fun i => match i with
    | .l k => match idx fr' k with | some j => ι' (.n j) | none => if memN mv k then ι (.l k) else ι' (.l k)
    | .o i => ι' (.o i)
    | .n _ => []
  have inmem : ∀ {k j : Nat}, idx fr' k = some j → k ∈ fr := fun hj => List.mem_of_mem_take (List.mem_of_getElem? (idx_some hj))
  have mfr : ∀ k, k ∈ fr → memN mv k = false := fun k hk => by
    cases hm : memN mv k with
    | false => rfl
    | true => exact absurd hk (hmf k (memN_mem _ _ hm))
  have old : ∀ k, k ∈ fr → ι' (.l k) = [] := fun k hk => p3 (.l k) (by simp only [ιm, mfr k hk]; exact q7.2 k hk) (by simp)
  have hren : ∀ (id : Id) (g : Nat) (loc : Loc), (ι' id)[g]? = some loc → (ι2 (nu fr id))[g]? = some loc := by
    intro id g loc hx
    cases id with
    | o i => exact hx
    | n j =>
      by_cases hj : j < N.length
      · show (ι2 (.l (fr.getD j 0)))[g]? = _
        simp only [ι2, idx_nodup hnd' (hfr' j hj)]
        exact hx
      · rw [p3n j (by omega)] at hx; simp at hx
    | l k =>
      show (ι2 (.l k))[g]? = _
      cases hk : idx fr' k with
      | some j => rw [old k (inmem hk)] at hx; simp at hx
      | none =>
        cases hm : memN mv k with
        | true =>
          have : ι' (.l k) = [] := p3 (.l k) (by simp only [ιm, hm]; rfl) (by simp)
          rw [this] at hx; simp at hx
        | false => simp only [ι2, hk, hm]; exact hx
  have hle : ∀ (id : Id) (g : Nat) (loc : Loc), (ι id)[g]? = some loc → (ι2 id)[g]? = some loc := by
    intro id g loc hx
    cases id with
    | o i => exact p2 (.o i) _ _ (by simp) hx
    | n j => rw [q8 j] at hx; simp at hx
    | l k =>
      cases hk : idx fr' k with
      | some j => rw [q7.2 k (inmem hk)] at hx; simp at hx
      | none =>
        cases hm : memN mv k with
        | true => simp only [ι2, hk, hm]; exact hx
        | false => simp only [ι2, hk, hm]; exact p2 (.l k) _ _ (by simp) (by simp only [ιm, hm]; exact hx)
  have hD : Den E' ι2 (hp h (addN (nu fr) fr N (renB (nu fr) L'))) w1 := by
    refine p4.rename (fun i => match i with | .l k => (match idx fr' k with | some j => .n j | none => .l k) | i => i) (fun i b hb => ?_) (fun i i' b b' hb hb' e => ?_)
    · cases i with
      | l k =>
        simp only [hp, getB_addN _ _ _ _ _ hN] at hb
        cases hk : idx fr' k with
        | some j =>
          have hk' : idx (List.take N.length fr) k = some j := hk
          simp only [hk', Option.map_eq_some_iff] at hb
          obtain ⟨b0, hb0, rfl⟩ := hb
          have hj : j < N.length := (List.getElem?_eq_some_iff.1 hb0).1
          have hkj : fr.getD j 0 = k := by
            have := idx_some hk
            rw [hfr' j hj] at this
            exact Option.some.inj this
          refine ⟨b0, by simp only [hk]; exact hb0, by simp only [ι2, hk], ?_⟩
          have := BlkOk.ren' (id := .n j) (ι' := ι2) (nu fr) hren (by simp only [nu, hkj, ι2, hk]) (p4.ok (.n j) b0 hb0)
          simp only [nu, hkj] at this
          exact this
        | none =>
          have hk' : idx (List.take N.length fr) k = none := hk
          simp only [hk', getB_renB, Option.map_eq_some_iff] at hb
          obtain ⟨b0, hb0, rfl⟩ := hb
          have hm := (avoidB_get _ _ _ _ aL hb0).1
          refine ⟨b0, by simp only [hk]; exact hb0, by simp only [ι2, hk, hm]; rfl, ?_⟩
          exact BlkOk.ren' (id := .l k) (ι' := ι2) (nu fr) hren (by simp only [nu, ι2, hk, hm]; rfl) (p4.ok (.l k) b0 hb0)
      | o i =>
        refine ⟨b, hb, rfl, ?_⟩
        have hb' := hb
        simp only [hp, Option.map_eq_some_iff] at hb'
        obtain ⟨b0, hb0, rfl⟩ := hb'
        have := BlkOk.ren' (id := .o i) (ι' := ι2) (nu fr) hren rfl (p4.ok (.o i) _ hb)
        rw [Blk.ren_ren] at this
        exact this
      | n j => simp [hp] at hb
    · cases i with
      | l k =>
        cases i' with
        | l k' =>
          dsimp only at e
          cases hk : idx fr' k with
          | some j =>
            cases hk' : idx fr' k' with
            | some j' =>
              rw [hk, hk'] at e
              cases e
              have := idx_some hk
              rw [idx_some hk'] at this
              cases this
              rfl
            | none => rw [hk, hk'] at e; cases e
          | none =>
            cases hk' : idx fr' k' with
            | some j' => rw [hk, hk'] at e; cases e
            | none => rw [hk, hk'] at e; exact e
        | o i' =>
          dsimp only at e
          cases hk : idx fr' k <;> rw [hk] at e <;> cases e
        | n j => simp [hp] at hb'
      | o i =>
        cases i' with
        | l k' =>
          dsimp only at e
          cases hk : idx fr' k' <;> rw [hk] at e <;> cases e
        | o i' => exact e
        | n j => simp [hp] at hb'
      | n j => simp [hp] at hb
  refine ⟨v, w1, E', ι2, r.ren (nu fr), h, _, fr.drop N.length, .head henter (Steps.trans s1 (.one ?_)), p1, hle, fun i x => p3 (.o i) x (by simp), hD, p5.ren' (nu fr) hren, ⟨(List.drop_sublist _ _).nodup q7.1, fun k hk => by
    have hnot : idx fr' k = none := by
      cases hx : idx fr' k with
      | none => rfl
      | some j =>
        exfalso
        have h1 : k ∈ fr' := List.mem_of_getElem? (idx_some hx)
        have := List.nodup_append.1 (by rw [List.take_append_drop]; exact q7.1 : (fr.take N.length ++ fr.drop N.length).Nodup)
        exact this.2.2 k h1 k hk rfl
    have hkf := List.mem_of_mem_drop hk
    simp only [ι2, hnot, mfr k hkf]
    exact old k hkf⟩, fun _ => rfl, hW⟩
  rw [← hfin]; exact step_leave_returned s3
/-- A call that is handed the blocks mv for good. -/
theorem SemW.callM {ks ks' : List Item} {T : Tm} {L : Lh} {fr : List Nat} {f : FuncId} {args : List AV} {d : Nat} {g : Func} (mv : List Nat) (L' : Lh) {bs : List Blk} (hc : callOf ks T = some (f, args, d, ks')) (hd : Nat.blt d fn.ntmps = true) (hf : P.funcs[f]? = some g) (hname : (g.name == "runtime.NumGoroutine") = false) (hb : g.body.isSome = true)
    (hbs : selB L mv = some bs) (hnd : mv.Nodup) (hmf : ∀ k ∈ mv, k ∉ fr) (hL : leB L' L) (aL : avoidB (memN mv) L' = true)
    (hh : SemCM P f (renL (si mv) args) (bs.map (Blk.ren (si mv))) (hp h L') fun r N => N.length ≤ fr.length ∧ SemW P fid fn Q h ks' ((d, r.ren (nu fr)) :: T) (addN (nu fr) fr N (renB (nu fr) L')) (fr.drop N.length)) : SemW P fid fn Q h ks T L fr := by
  obtain ⟨ops, i, is, rest, o, c, x, caps, vs, rfl, rfl, ho, hw, hop, hcal, hx, hvs, rfl, hdst⟩ := callOf_some hc
  refine SemW.run1 (fun _ _ _ h => h) (fun d' hd' => by rw [hdst] at hd'; cases hd'; exact Nat.blt_eq.mp hd) (OpRun.callM ho hw hop hcal hx hvs hf hname hb hbs hnd hmf hL aL ?_)
  rw [hdst]
  exact hh
end
end Go.AM
set_option linter.unusedVariables false
set_option linter.unusedSimpArgs false
namespace Go.AM
variable {P : Program}
def lren (σ : Nat → Nat) : Id → Id
  | .l k => .l (σ k)
  | i => i
def renT (σ : Nat → Nat) : Tm → Tm
  | [] => []
  | (t, v) :: T => (t, v.ren (lren σ)) :: renT σ T
def renK (σ : Nat → Nat) : Lh → Lh
  | [] => []
  | (k, b) :: L => (σ k, b.ren (lren σ)) :: renK σ L
theorem get_renT (σ : Nat → Nat) : ∀ (T : Tm) (t : Nat), get (renT σ T) t = (get T t).ren (lren σ)
  | [], _ => rfl
  | (u, v) :: T, t => by
    simp only [renT, get]
    cases Nat.beq u t with
    | true => rfl
    | false => exact get_renT σ T t
theorem getB_renK {σ τ : Nat → Nat} (h1 : ∀ k, τ (σ k) = k) (h2 : ∀ k, σ (τ k) = k) : ∀ (L : Lh) (k : Nat), getB (renK σ L) k = (getB L (τ k)).map (Blk.ren (lren σ))
  | [], _ => rfl
  | (u, b) :: L, k => by
    simp only [renK, getB]
    cases hb : Nat.beq (σ u) k with
    | true =>
      have := Nat.eq_of_beq_eq_true hb
      subst this
      rw [h1, Nat.beq_refl]
      rfl
    | false =>
      have hne : Nat.beq u (τ k) = false := by
        cases hx : Nat.beq u (τ k) with
        | false => rfl
        | true =>
          have := Nat.eq_of_beq_eq_true hx
          subst this
          rw [h2, Nat.beq_refl] at hb
          cases hb
      rw [hne]
      exact getB_renK h1 h2 L k
theorem nodup_map {σ : Nat → Nat} (hi : ∀ x y, σ x = σ y → x = y) : ∀ {l : List Nat}, l.Nodup → (l.map σ).Nodup
  | [], _ => List.nodup_nil
  | a :: l, h => by
    rw [List.map_cons, List.nodup_cons]
    refine ⟨fun hm => ?_, nodup_map hi (List.nodup_cons.1 h).2⟩
    obtain ⟨b, hb, e⟩ := List.mem_map.1 hm
    exact (List.nodup_cons.1 h).1 (hi _ _ e ▸ hb)
section
variable {fid : FuncId} {fn : Func} {Q : AV → Hp → List Blk → Prop} {h : Hp}
theorem SemW.renN (σ τ : Nat → Nat) (h1 : ∀ k, τ (σ k) = k) (h2 : ∀ k, σ (τ k) = k) {ks : List Item} {T : Tm} {L : Lh} {fr : List Nat} (hh : SemW P fid fn Q h ks (renT σ T) (renK σ L) (fr.map σ)) : SemW P fid fn Q h ks T L fr := by
  intro E ι a w b cs q1 q2 q3 q4 q5 q6 q7 q8
  let ι' : Io := fun i => match i with | .l k => ι (.l (τ k)) | i => ι i
  have hren : ∀ (id : Id) (g : Nat) (loc : Loc), (ι id)[g]? = some loc → (ι' (lren σ id))[g]? = some loc := by
    intro id g loc hx
    cases id with
    | l k => show (ι (.l (τ (σ k))))[g]? = _; rw [h1]; exact hx
    | o i => exact hx
    | n j => exact hx
  have hT : TOk E ι' (renT σ T) a.tmps := fun t => by
    rw [get_renT]
    exact (q5 t).ren' (lren σ) hren
  have hD : Den E ι' (hp h (renK σ L)) w := by
    refine q6.rename (fun i => match i with | .l k => .l (τ k) | i => i) (fun i b hb => ?_) (fun i i' b b' _ _ e => ?_)
    · cases i with
      | l k =>
        have hb' : getB (renK σ L) k = some b := hb
        rw [getB_renK h1 h2, Option.map_eq_some_iff] at hb'
        obtain ⟨b0, h0, rfl⟩ := hb'
        refine ⟨b0, h0, rfl, ?_⟩
        have := BlkOk.ren' (id := .l (τ k)) (ι' := ι') (lren σ) hren (by show ι (.l (τ (σ (τ k)))) = _; rw [h1]) (q6.ok (.l (τ k)) b0 h0)
        simp only [lren, h2] at this
        exact this
      | o i =>
        refine ⟨b, hb, rfl, ?_⟩
        have hb' := hb
        simp only [hp, Option.map_eq_some_iff] at hb'
        obtain ⟨b0, _, rfl⟩ := hb'
        have := BlkOk.ren' (id := .o i) (ι' := ι') (lren σ) hren rfl (q6.ok (.o i) _ hb)
        rw [Blk.ren_ren] at this
        exact this
      | n j => simp [hp] at hb
    · cases i with
      | l k =>
        cases i' with
        | l k' =>
          replace e := Id.l.inj e
          rw [← h2 k, e, h2]
        | o i' => cases e
        | n j => cases e
      | o i => cases i' with
        | l k' => cases e
        | o i' => exact e
        | n j => cases e
      | n j => cases i' with
        | l k' => cases e
        | o i' => cases e
        | n j' => exact e
  obtain ⟨w', frm, v, s1, s2, s3, s4⟩ := hh E ι' a w b cs q1 q2 q3 q4 hT hD ⟨nodup_map (fun x y hxy => by rw [← h1 x, hxy, h1]) q7.1, fun n hn => by
    obtain ⟨m, hm, rfl⟩ := List.mem_map.1 hn
    show ι (.l (τ (σ m))) = []
    rw [h1]
    exact q7.2 m hm⟩ q8
  exact ⟨w', frm, v, s1, s2, s3, s4.mono (Env.le.refl E) (fun i g l x => x) (fun i x => x)⟩
/-- p and q change their names -/
def swp (p q : Nat) (k : Nat) : Nat := bif Nat.beq k p then q else bif Nat.beq k q then p else k
theorem swp_swp (p q k : Nat) : swp p q (swp p q k) = k := by
  unfold swp
  cases h1 : Nat.beq k p with
  | true =>
    have := Nat.eq_of_beq_eq_true h1
    subst this
    simp only [cond_true]
    cases h2 : Nat.beq q k with
    | true => exact Nat.eq_of_beq_eq_true h2
    | false => simp
  | false =>
    cases h2 : Nat.beq k q with
    | true =>
      have := Nat.eq_of_beq_eq_true h2
      subst this
      simp
    | false => simp [h1, h2]
theorem SemW.swap (p q : Nat) {ks : List Item} {T : Tm} {L : Lh} {fr : List Nat} (hh : SemW P fid fn Q h ks (renT (swp p q) T) (renK (swp p q) L) (fr.map (swp p q))) : SemW P fid fn Q h ks T L fr :=
  SemW.renN (swp p q) (swp p q) (swp_swp p q) (swp_swp p q) hh
end
end Go.AM
set_option linter.unusedVariables false
set_option linter.unusedSimpArgs false
namespace Go.AM
theorem wrap_i64 {n : Int} (h1 : -9223372036854775808 ≤ n) (h2 : n ≤ 9223372036854775807) : IntKind.i64.wrap n = n := by
  simp only [IntKind.wrap, IntKind.bits, IntKind.signed, IntKind.max, IntKind.min]
  simp
  omega
theorem wrap_u64 {n : Int} (h1 : 0 ≤ n) (h2 : n ≤ 18446744073709551615) : IntKind.u64.wrap n = n := by
  simp only [IntKind.wrap, IntKind.bits, IntKind.signed, IntKind.max, IntKind.min]
  simp
  omega
end Go.AM
set_option linter.unusedVariables false
set_option linter.unusedSimpArgs false
open Go Go.AM
namespace Go.AM
structure Pl where
  node : Int
  serial : Int
  deriving DecidableEq
instance : Inhabited Pl := ⟨⟨0, 0⟩⟩
def encP (p : Pl) : AV := .agg [.val (.int .i64 p.node), .val (.int .u64 p.serial)]
def sP (l : List Pl) : AV := .vs true 2 l.length (fun i => encP (l.getD i ⟨0, 0⟩))
structure Fr where
  first : Int
  books : List Pl
  deriving DecidableEq
instance : Inhabited Fr := ⟨⟨0, []⟩⟩
def encF (f : Fr) : AV := .agg [.val (.int .u64 f.first), sP f.books]
def sF (l : List Fr) : AV := .vs true 2 l.length (fun i => encF (l.getD i ⟨0, []⟩))
def fresh : List Nat := [0, 1, 2, 3, 4, 5, 6, 7, 8, 9]
theorem fresh_nodup : fresh.Nodup := by decide
def fresh1 : List Nat := [1, 2, 3, 4, 5, 6, 7, 8, 9]
theorem fresh1_nodup : fresh1.Nodup := by decide
def fresh3 : List Nat := [3, 4, 5, 6, 7, 8, 9]
theorem fresh3_nodup : fresh3.Nodup := by decide
theorem incI {i : Nat} (h : i < 2^62) : AV.val (.int .i64 (IntKind.i64.wrap ((i:Int) + 1))) = aint ((i + 1 : Nat) : Int) := by
  rw [wrap_i64 (by omega) (by omega)]; rfl
theorem incU {i : Nat} (h : i < 2^63) : AV.val (.int .u64 (IntKind.u64.wrap ((i:Int) + 1))) = .val (.int .u64 ((i + 1 : Nat) : Int)) := by
  rw [wrap_u64 (by omega) (by omega)]; rfl
theorem decI {i : Nat} (h : i < 2^62) : AV.val (.int .i64 (IntKind.i64.wrap ((i:Int) - 1))) = aint ((i : Int) - 1) := by
  rw [wrap_i64 (by omega) (by omega)]
theorem avoid_ren : ∀ (p : Nat → Bool), (∀ a : AV, (a.ren .o).avoid p = true) ∧ (∀ l : List AV, avoidL p (renL .o l) = true) := fun p => by
  have key : ∀ a : AV, (a.ren .o).avoid p = true := fun a =>
    AV.rec (motive_1 := fun a => (a.ren .o).avoid p = true) (motive_2 := fun l => avoidL p (renL .o l) = true) rfl (fun _ => rfl) (fun _ h => h) (fun _ h => h) (fun _ _ h => h) (fun _ _ => rfl) (fun _ _ _ _ _ => rfl) (fun _ _ _ _ _ => rfl) (fun _ _ _ _ _ _ => rfl) (fun _ _ _ _ _ => rfl) rfl (fun _ _ h1 h2 => by simp only [renL, avoidL, h1, h2]; rfl) a
  refine ⟨key, fun l => ?_⟩
  induction l with
  | nil => rfl
  | cons a l ih => simp only [renL, avoidL, key a, ih]; rfl
theorem avoid_caps {caps : List AV} (h : renL .o caps = caps) (p : Nat → Bool) : avoidL p caps = true := by rw [← h]; exact (avoid_ren p).2 caps
theorem blt_zero (n : Nat) : Nat.blt n 0 = false := by
  cases hb : Nat.blt n 0 with
  | false => rfl
  | true => have := Nat.blt_eq.mp hb; omega
abbrev P0 : Pl := ⟨0, 0⟩
abbrev F0 : Fr := ⟨0, []⟩
def longF (l : List Fr) : Bool := decide ((l.length : Int) > 30) || (List.range l.length).any fun i => decide (((l.getD i F0).books.length : Int) > 30)
/-- rows of places -/
def sR (l : List (List Pl)) : AV := .vs false 1 l.length (fun i => sP (l.getD i []))
def longB (l : List Fr) (w : Int) (rows : List (List Pl)) : Bool := longF l || (decide (w > 1000) || (List.range rows.length).any fun i => decide (((rows.getD i []).length : Int) > 60))
theorem any_true {f : Nat → Bool} {n i : Nat} (h : i < n) (hf : f i = true) : (List.range n).any f = true := List.any_eq_true.2 ⟨i, List.mem_range.2 h, hf⟩
theorem any_succ {f : Nat → Bool} {n : Nat} (h : (List.range n).any f = false) (hf : f n = false) : (List.range (n + 1)).any f = false := by
  rw [List.range_succ, List.any_append, h]
  simp [hf]
structure CapsOk (caps : List AV) : Prop where
  ren : ∀ f, renL f caps = caps
  view : ∀ h, viewL h caps = caps
  ok : ∀ h, viewLC h caps
theorem CapsOk.vp (ag : Bool) (c : Nat) (x : AV) (o : Nat) : CapsOk [.vp ag c x o] := ⟨fun _ => rfl, fun _ => rfl, fun _ => ⟨trivial, trivial⟩⟩
theorem CapsOk.avoid {caps : List AV} (h : CapsOk caps) (p : Nat → Bool) : avoidL p caps = true := avoid_caps (h.ren .o) p
def keptL (l : List Pl) (is : Pl → Bool) : List Pl := l.filter fun p => !(is p)
theorem keptL_take {l : List Pl} {is : Pl → Bool} {j : Nat} (h : j < l.length) : keptL (l.take (j + 1)) is = if is l[j] then keptL (l.take j) is else keptL (l.take j) is ++ [l[j]] := by
  have e : l.take (j + 1) = l.take j ++ [l[j]] := by rw [List.take_add_one, List.getElem?_eq_getElem h]; rfl
  unfold keptL
  rw [e, List.filter_append]
  cases hb : is l[j] with
  | true => simp [hb]
  | false => simp [hb]
theorem keptL_le (l : List Pl) (is : Pl → Bool) (j : Nat) : (keptL (l.take j) is).length ≤ j := by
  have h1 := List.length_filter_le (fun p => !(is p)) (l.take j)
  have h2 : (l.take j).length ≤ j := by simp; omega
  unfold keptL
  omega
theorem keptL_all {l : List Pl} {is : Pl → Bool} (h : ∀ p ∈ l, is p = false) : keptL l is = l := by
  unfold keptL
  rw [List.filter_eq_self]
  intro p hp
  simp [h p hp]
/-- one element appended -/
theorem app1 {f f' : Nat → AV} {z v : AV} {i : Nat} (h : ∀ j, j < i → f j = f' j) (hv : v = f' i) : ∀ j, j < i + 1 → (bif Nat.blt j i then f (0 + j) else fillE (fun _ => z) [(0, v)] (0 + (j - i))) = f' j := by
  intro j hj
  cases hb : Nat.blt j i with
  | true =>
    have := Nat.blt_eq.mp hb
    simp only [cond_true, Nat.zero_add]
    exact h j this
  | false =>
    have hge : i ≤ j := Nat.le_of_not_lt fun hlt => by rw [← Nat.blt_eq, hb] at hlt; cases hlt
    have : j = i := by omega
    subst this
    simp [fillE, hv]
theorem app1P {l : List Pl} {x : Pl} {z v : AV} (hv : v = encP x) : ∀ j, j < (l ++ [x]).length → (bif Nat.blt j l.length then encP (l.getD (0 + j) ⟨0, 0⟩) else fillE (fun _ => z) [(0, v)] (0 + (j - l.length))) = encP ((l ++ [x]).getD j ⟨0, 0⟩) := by
  intro j hj
  refine app1 (f := fun j => encP (l.getD j ⟨0, 0⟩)) (f' := fun j => encP ((l ++ [x]).getD j ⟨0, 0⟩)) (fun j hj => ?_) ?_ j (by simpa using hj)
  · simp only [List.getD_eq_getElem?_getD]
    rw [List.getElem?_append_left hj]
  · rw [hv]
    simp
theorem AvLe.sP {l : List Pl} {n : Nat} {f : Nat → AV} (hn : n = l.length) (hf : ∀ i, i < n → f i = encP (l.getD i ⟨0, 0⟩)) : AvLe (.vs true 2 n f) (sP l) := AvLe.vs hn hf
/-- the first that is so, as an int; -1: there is none -/
def idxF {α : Type} (l : List α) (p : α → Bool) : Int := if l.findIdx p < l.length then (l.findIdx p : Int) else -1
theorem idxF_any {α : Type} (l : List α) (p : α → Bool) : decide (0 ≤ idxF l p) = l.any p := by
  unfold idxF
  split
  · rename_i h
    have : l.any p = true := by
      rw [List.any_eq_true]
      exact ⟨_, List.getElem_mem h, List.findIdx_getElem (w := h)⟩
    rw [this]
    simp
  · rename_i h
    have : l.any p = false := by
      cases hb : l.any p with
      | false => rfl
      | true =>
        rw [List.any_eq_true] at hb
        obtain ⟨x, h1, h2⟩ := hb
        exact absurd (List.findIdx_lt_length_of_exists ⟨x, h1, h2⟩) h
    rw [this]
    simp
end Go.AM
set_option linter.unusedVariables false
set_option linter.unusedSimpArgs false
open Go Go.AM
namespace Go.Proofs.Try
set_option maxRecDepth 100000
set_option maxHeartbeats 4000000
def tabT : Nat → TI
  | 1 => ⟨true, .other, 1, false, [.nilFunc], 8, false⟩
  | 2 => ⟨true, .int .i64, 1, false, [.int .i64 0], 8, false⟩
  | 3 => ⟨true, .int .i64, 1, false, [.int .i64 0], 8, false⟩
  | 4 => ⟨true, .bool, 1, false, [.bool false], 1, false⟩
  | 5 => ⟨true, .int .u8, 1, false, [.int .u8 0], 1, false⟩
  | 9 => ⟨true, .string, 1, false, [.string ByteArray.empty], 16, false⟩
  | 12 => ⟨true, .int .u64, 1, false, [.int .u64 0], 8, false⟩
  | 15 => ⟨true, .ptr 84, 1, false, [.pointer none], 8, false⟩
  | 16 => ⟨true, .ptr 87, 1, false, [.pointer none], 8, false⟩
  | 17 => ⟨true, .ptr 97, 1, false, [.pointer none], 8, false⟩
  | 21 => ⟨true, .int .i32, 1, false, [.int .i32 0], 4, false⟩
  | 22 => ⟨true, .int .u64, 1, false, [.int .u64 0], 8, false⟩
  | 23 => ⟨true, .slice 32, 1, false, [.slice none 0 0], 24, false⟩
  | 24 => ⟨true, .struct [(0, 22), (1, 23)], 2, true, [.int .u64 0, .slice none 0 0], 32, false⟩
  | 25 => ⟨true, .struct [(0, 22), (1, 23)], 2, true, [.int .u64 0, .slice none 0 0], 32, false⟩
  | 26 => ⟨true, .other, 1, false, [.nilFunc], 8, false⟩
  | 27 => ⟨true, .slice 25, 1, false, [.slice none 0 0], 24, false⟩
  | 28 => ⟨true, .other, 1, false, [.nilFunc], 8, false⟩
  | 29 => ⟨true, .other, 1, false, [.nilFunc], 8, false⟩
  | 30 => ⟨true, .other, 1, false, [.nilFunc], 8, false⟩
  | 31 => ⟨true, .struct [(0, 3), (1, 22)], 2, true, [.int .i64 0, .int .u64 0], 16, true⟩
  | 32 => ⟨true, .struct [(0, 3), (1, 22)], 2, true, [.int .i64 0, .int .u64 0], 16, true⟩
  | 33 => ⟨true, .other, 1, false, [.nilFunc], 8, false⟩
  | 34 => ⟨true, .other, 1, false, [.nilFunc], 8, false⟩
  | 35 => ⟨true, .other, 1, false, [.nilFunc], 8, false⟩
  | 36 => ⟨true, .array 16 3, 16, true, [.int .i64 0, .int .i64 0, .int .i64 0, .int .i64 0, .int .i64 0, .int .i64 0, .int .i64 0, .int .i64 0, .int .i64 0, .int .i64 0, .int .i64 0, .int .i64 0, .int .i64 0, .int .i64 0, .int .i64 0, .int .i64 0], 128, false⟩
  | 37 => ⟨true, .other, 1, false, [.nilFunc], 8, false⟩
  | 38 => ⟨true, .other, 1, false, [.nilFunc], 8, false⟩
  | 39 => ⟨true, .other, 1, false, [.nilFunc], 8, false⟩
  | 40 => ⟨true, .other, 1, false, [.nilFunc], 8, false⟩
  | 41 => ⟨true, .other, 1, false, [.nilFunc], 8, false⟩
  | 42 => ⟨true, .other, 1, false, [.nilFunc], 8, false⟩
  | 43 => ⟨true, .other, 1, false, [.nilFunc], 8, false⟩
  | 44 => ⟨true, .other, 1, false, [.nilFunc], 8, false⟩
  | 45 => ⟨true, .other, 1, false, [.nilFunc], 8, false⟩
  | 46 => ⟨true, .slice 3, 1, false, [.slice none 0 0], 24, false⟩
  | 47 => ⟨true, .int .i64, 1, false, [.int .i64 0], 8, false⟩
  | 49 => ⟨true, .other, 1, false, [.nilFunc], 8, false⟩
  | 50 => ⟨true, .other, 1, false, [.nilFunc], 8, false⟩
  | 51 => ⟨true, .other, 1, false, [.nilFunc], 8, false⟩
  | 53 => ⟨true, .other, 1, false, [.nilFunc], 8, false⟩
  | 54 => ⟨true, .other, 1, false, [.nilFunc], 8, false⟩
  | 55 => ⟨true, .other, 1, false, [.nilFunc], 8, false⟩
  | 56 => ⟨true, .other, 1, false, [.nilFunc], 8, false⟩
  | 57 => ⟨true, .other, 1, false, [.nilFunc], 8, false⟩
  | 58 => ⟨true, .other, 1, false, [.nilFunc], 8, false⟩
  | 59 => ⟨true, .slice 23, 1, false, [.slice none 0 0], 24, false⟩
  | 60 => ⟨true, .other, 1, false, [.nilFunc], 8, false⟩
  | 61 => ⟨true, .other, 1, false, [.nilFunc], 8, false⟩
  | 62 => ⟨true, .other, 1, false, [.nilFunc], 8, false⟩
  | 63 => ⟨true, .other, 1, false, [.nilFunc], 8, false⟩
  | 64 => ⟨true, .other, 1, false, [.nilFunc], 8, false⟩
  | 65 => ⟨true, .other, 1, false, [.nilFunc], 8, false⟩
  | 66 => ⟨true, .other, 1, false, [.nilFunc], 8, false⟩
  | 67 => ⟨true, .other, 1, false, [.nilFunc], 8, false⟩
  | 68 => ⟨true, .other, 1, false, [.nilFunc], 8, false⟩
  | 69 => ⟨true, .other, 1, false, [.nilFunc], 8, false⟩
  | 70 => ⟨true, .other, 1, false, [.nilFunc], 8, false⟩
  | 71 => ⟨true, .other, 1, false, [.nilFunc], 8, false⟩
  | 72 => ⟨true, .other, 1, false, [.nilFunc], 8, false⟩
  | 73 => ⟨true, .other, 1, false, [.nilFunc], 8, false⟩
  | 74 => ⟨true, .other, 1, false, [.nilFunc], 8, false⟩
  | 75 => ⟨true, .other, 1, false, [.nilFunc], 8, false⟩
  | 76 => ⟨true, .other, 1, false, [.nilFunc], 8, false⟩
  | 77 => ⟨true, .other, 1, false, [.nilFunc], 8, false⟩
  | 78 => ⟨true, .other, 1, false, [.nilFunc], 8, false⟩
  | 79 => ⟨true, .other, 1, false, [.nilFunc], 8, false⟩
  | 80 => ⟨true, .other, 1, false, [.nilFunc], 8, false⟩
  | 81 => ⟨true, .other, 1, false, [.nilFunc], 8, false⟩
  | 82 => ⟨true, .other, 1, false, [.nilFunc], 8, false⟩
  | 85 => ⟨true, .array 0 16, 0, true, [], 0, false⟩
  | 88 => ⟨true, .other, 1, false, [.nilFunc], 8, false⟩
  | 89 => ⟨true, .int .u32, 1, false, [.int .u32 0], 4, false⟩
  | 92 => ⟨true, .other, 1, false, [.nilFunc], 8, false⟩
  | 93 => ⟨true, .ptr 5, 1, false, [.pointer none], 8, false⟩
  | 96 => ⟨true, .struct [(0, 12), (1, 12), (2, 89), (3, 90), (4, 5), (5, 5), (6, 91), (7, 92), (8, 93), (9, 94), (10, 95)], 11, true, [.int .u64 0, .int .u64 0, .int .u32 0, .int .u8 0, .int .u8 0, .int .u8 0, .int .u8 0, .nilFunc, .pointer none, .int .i32 0, .int .i32 0], 48, false⟩
  | _ => ⟨false, .other, 1, false, [], 8, false⟩
def tyT : TypeId → TI := tyOf tabT 99
theorem tyT_ok : TyOk Try.prog tyT := TyOk.of (by kernel_rfl)
@[simp] theorem bytes1 : (tyT 1).bytes = 8 := rfl
@[simp] theorem bytes2 : (tyT 2).bytes = 8 := rfl
@[simp] theorem bytes3 : (tyT 3).bytes = 8 := rfl
@[simp] theorem bytes4 : (tyT 4).bytes = 1 := rfl
@[simp] theorem bytes5 : (tyT 5).bytes = 1 := rfl
@[simp] theorem bytes9 : (tyT 9).bytes = 16 := rfl
@[simp] theorem bytes12 : (tyT 12).bytes = 8 := rfl
@[simp] theorem bytes15 : (tyT 15).bytes = 8 := rfl
@[simp] theorem bytes16 : (tyT 16).bytes = 8 := rfl
@[simp] theorem bytes17 : (tyT 17).bytes = 8 := rfl
@[simp] theorem bytes21 : (tyT 21).bytes = 4 := rfl
@[simp] theorem bytes22 : (tyT 22).bytes = 8 := rfl
@[simp] theorem bytes23 : (tyT 23).bytes = 24 := rfl
@[simp] theorem bytes24 : (tyT 24).bytes = 32 := rfl
@[simp] theorem bytes25 : (tyT 25).bytes = 32 := rfl
@[simp] theorem bytes26 : (tyT 26).bytes = 8 := rfl
@[simp] theorem bytes27 : (tyT 27).bytes = 24 := rfl
@[simp] theorem bytes28 : (tyT 28).bytes = 8 := rfl
@[simp] theorem bytes29 : (tyT 29).bytes = 8 := rfl
@[simp] theorem bytes30 : (tyT 30).bytes = 8 := rfl
@[simp] theorem bytes31 : (tyT 31).bytes = 16 := rfl
@[simp] theorem bytes32 : (tyT 32).bytes = 16 := rfl
@[simp] theorem bytes33 : (tyT 33).bytes = 8 := rfl
@[simp] theorem bytes34 : (tyT 34).bytes = 8 := rfl
@[simp] theorem bytes35 : (tyT 35).bytes = 8 := rfl
@[simp] theorem bytes36 : (tyT 36).bytes = 128 := rfl
@[simp] theorem bytes37 : (tyT 37).bytes = 8 := rfl
@[simp] theorem bytes38 : (tyT 38).bytes = 8 := rfl
@[simp] theorem bytes39 : (tyT 39).bytes = 8 := rfl
@[simp] theorem bytes40 : (tyT 40).bytes = 8 := rfl
@[simp] theorem bytes41 : (tyT 41).bytes = 8 := rfl
@[simp] theorem bytes42 : (tyT 42).bytes = 8 := rfl
@[simp] theorem bytes43 : (tyT 43).bytes = 8 := rfl
@[simp] theorem bytes44 : (tyT 44).bytes = 8 := rfl
@[simp] theorem bytes45 : (tyT 45).bytes = 8 := rfl
@[simp] theorem bytes46 : (tyT 46).bytes = 24 := rfl
@[simp] theorem bytes47 : (tyT 47).bytes = 8 := rfl
@[simp] theorem bytes49 : (tyT 49).bytes = 8 := rfl
@[simp] theorem bytes50 : (tyT 50).bytes = 8 := rfl
@[simp] theorem bytes51 : (tyT 51).bytes = 8 := rfl
@[simp] theorem bytes53 : (tyT 53).bytes = 8 := rfl
@[simp] theorem bytes54 : (tyT 54).bytes = 8 := rfl
@[simp] theorem bytes55 : (tyT 55).bytes = 8 := rfl
@[simp] theorem bytes56 : (tyT 56).bytes = 8 := rfl
@[simp] theorem bytes57 : (tyT 57).bytes = 8 := rfl
@[simp] theorem bytes58 : (tyT 58).bytes = 8 := rfl
@[simp] theorem bytes59 : (tyT 59).bytes = 24 := rfl
@[simp] theorem bytes60 : (tyT 60).bytes = 8 := rfl
@[simp] theorem bytes61 : (tyT 61).bytes = 8 := rfl
@[simp] theorem bytes62 : (tyT 62).bytes = 8 := rfl
@[simp] theorem bytes63 : (tyT 63).bytes = 8 := rfl
@[simp] theorem bytes64 : (tyT 64).bytes = 8 := rfl
@[simp] theorem bytes65 : (tyT 65).bytes = 8 := rfl
@[simp] theorem bytes66 : (tyT 66).bytes = 8 := rfl
@[simp] theorem bytes67 : (tyT 67).bytes = 8 := rfl
@[simp] theorem bytes68 : (tyT 68).bytes = 8 := rfl
@[simp] theorem bytes69 : (tyT 69).bytes = 8 := rfl
@[simp] theorem bytes70 : (tyT 70).bytes = 8 := rfl
@[simp] theorem bytes71 : (tyT 71).bytes = 8 := rfl
@[simp] theorem bytes72 : (tyT 72).bytes = 8 := rfl
@[simp] theorem bytes73 : (tyT 73).bytes = 8 := rfl
@[simp] theorem bytes74 : (tyT 74).bytes = 8 := rfl
@[simp] theorem bytes75 : (tyT 75).bytes = 8 := rfl
@[simp] theorem bytes76 : (tyT 76).bytes = 8 := rfl
@[simp] theorem bytes77 : (tyT 77).bytes = 8 := rfl
@[simp] theorem bytes78 : (tyT 78).bytes = 8 := rfl
@[simp] theorem bytes79 : (tyT 79).bytes = 8 := rfl
@[simp] theorem bytes80 : (tyT 80).bytes = 8 := rfl
@[simp] theorem bytes81 : (tyT 81).bytes = 8 := rfl
@[simp] theorem bytes82 : (tyT 82).bytes = 8 := rfl
@[simp] theorem bytes85 : (tyT 85).bytes = 0 := rfl
@[simp] theorem bytes88 : (tyT 88).bytes = 8 := rfl
@[simp] theorem bytes89 : (tyT 89).bytes = 4 := rfl
@[simp] theorem bytes92 : (tyT 92).bytes = 8 := rfl
@[simp] theorem bytes93 : (tyT 93).bytes = 8 := rfl
@[simp] theorem bytes96 : (tyT 96).bytes = 48 := rfl
theorem mixed : Try.prog.follows .mixedOrders = true := by kernel_rfl
end Go.Proofs.Try
set_option linter.unusedVariables false
set_option linter.unusedSimpArgs false
open Go Go.AM
namespace Go.Proofs.Try
set_option maxRecDepth 100000
set_option maxHeartbeats 4000000
theorem eqP (a b : Pl) : (a.node == b.node && (a.serial == b.serial && true)) = (a == b) := by
  cases a; cases b
  rw [Bool.eq_iff_iff]
  simp
theorem index_spec (l : List Pl) (p : Pl) (h : Hp) (Q : AV → Hp → List Blk → Prop) (hl : l.length < 2^62) (hQ : Q (aint (idxF l (· == p))) h []) : SemC Try.prog 43 [sP l, encP p] h Q := by
  refine SemC.enter func43 rfl (Nat.le_of_ble_eq_true rfl) fresh fresh_nodup ?_
  refine SemW.go tyT_ok mixed ?_
  conv => arg 6; whnf
  refine Holds.mk (by first | (simp; done) | (simp; omega) | omega) ?_
  refine SemW.loop (X := {i : Nat // i ≤ l.findIdx (· == p)}) (fun i => [(0, sP l), (7, aint l.length), (3, .ptr (.l 0) 0), (8, aint i.1)]) (fun _ => [(0, .obj [.val (.int .i64 p.node), .val (.int .u64 p.serial)])]) (fun _ => fresh1) (fun i => l.length - i.1) ⟨0, Nat.zero_le _⟩ (SemW.cut ⟨rfl, rfl, rfl, rfl, trivial⟩ ⟨rfl, trivial⟩ fresh1_nodup rfl rfl) (fun ⟨i, hi⟩ IH => ?_)
  dsimp only at hi IH ⊢
  refine SemW.go tyT_ok mixed ?_
  conv => arg 6; whnf
  refine Holds.mk (by first | (simp; done) | (simp; omega) | omega) ?_
  refine SemW.cond rfl (fun c1 => ?_) (fun c1 => ?_)
  · have hil : i < l.length := by simpa using c1
    have hg : l.getD i ⟨0, 0⟩ = l[i] := by simp [hil]
    refine SemW.go tyT_ok mixed ?_
    conv => arg 6; whnf
    refine Holds.mk ((by simp; exact hil)) ?_
    refine SemW.cond rfl (fun c2 => ?_) (fun c2 => ?_)
    · refine SemW.go tyT_ok mixed ?_
      conv => arg 6; whnf
      refine Holds.mk (by first | (simp; done) | (simp; omega) | omega) ?_
      refine SemW.ret0 tyT_ok func43 rfl rfl rfl ?_
      have hp : (l[i] == p) = true := by
        rw [← hg, ← eqP]
        simp at c2 ⊢
        exact ⟨c2.1.symm, c2.2.symm⟩
      have hf : l.findIdx (· == p) = i := by
        refine Nat.le_antisymm (Nat.le_of_not_lt fun hlt => ?_) hi
        have := List.not_of_lt_findIdx hlt
        rw [hp] at this
        cases this
      have : idxF l (· == p) = (i : Int) := by simp [idxF, hf, hil]
      rw [this] at hQ
      exact hQ
    · refine SemW.go tyT_ok mixed ?_
      conv => arg 6; whnf
      refine Holds.mk (by first | (simp; done) | (simp; omega) | omega) ?_
      have hp : (l[i] == p) = false := by
        rw [← hg, ← eqP]
        simp at c2 ⊢
        intro h1 h2
        exact c2 h1.symm h2.symm
      have hi' : i + 1 ≤ l.findIdx (· == p) := by
        refine Nat.lt_of_le_of_ne hi fun e => ?_
        have h2 : l.findIdx (· == p) < l.length := by omega
        have := List.findIdx_getElem (w := h2)
        simp only [← e] at this
        rw [hp] at this
        cases this
      have IH' := IH ⟨i + 1, hi'⟩ (by show l.length - (i + 1) < l.length - i; omega)
      refine SemW.cut ?_ ?_ fresh1_nodup rfl rfl IH'
      · exact ⟨rfl, rfl, rfl, incI (by omega), trivial⟩
      · exact ⟨rfl, trivial⟩
  · refine SemW.go tyT_ok mixed ?_
    conv => arg 6; whnf
    refine Holds.mk (by first | (simp; done) | (simp; omega) | omega) ?_
    refine SemW.ret0 tyT_ok func43 rfl rfl rfl ?_
    have : idxF l (· == p) = -1 := by
      simp at c1
      rw [idxF, if_neg (by omega)]
    rw [this] at hQ
    exact hQ
theorem contains_spec (l : List Pl) (p : Pl) (h : Hp) (Q : AV → Hp → List Blk → Prop) (hl : l.length < 2^62) (hQ : Q (abool (l.any (· == p))) h []) : SemC Try.prog 47 [sP l, encP p] h Q := by
  refine SemC.enter func47 rfl (Nat.le_of_ble_eq_true rfl) fresh fresh_nodup ?_
  refine SemW.go tyT_ok mixed ?_
  conv => arg 6; whnf
  refine Holds.mk (by first | (simp; done) | (simp; omega) | omega) ?_
  refine SemW.call0 rfl rfl func43 rfl rfl ?_
  refine index_spec l p _ _ hl ⟨rfl, rfl, _, rfl, rfl, rfl, ?_⟩
  refine SemW.go tyT_ok mixed ?_
  conv => arg 6; whnf
  refine Holds.mk (by first | (simp; done) | (simp; omega) | omega) ?_
  refine SemW.ret0 tyT_ok func47 rfl rfl rfl ?_
  have : decide (0 ≤ idxF l (· == p)) = l.any (· == p) := idxF_any l _
  rw [← this] at hQ
  exact hQ
end Go.Proofs.Try
set_option linter.unusedVariables false
set_option linter.unusedSimpArgs false
open Go Go.AM
namespace Go.Proofs.Try
set_option maxRecDepth 100000
set_option maxHeartbeats 4000000
theorem indexFunc_spec (l : List Pl) (cf : Nat) (g : Func) (caps : List AV) (is : Pl → Bool) (h : Hp) (Q : AV → Hp → List Blk → Prop) (hl : l.length < 2^62) (hcaps : renL .o caps = caps) (hf : Try.prog.funcs[cf]? = some g) (hn : (g.name == "runtime.NumGoroutine") = false) (hb : g.body.isSome = true)
    (hc : ∀ p ∈ l, ∀ h Q, Q (abool (is p)) h [] → SemC Try.prog cf ([encP p] ++ caps) h Q) (hQ : Q (aint (idxF l is)) h []) : SemC Try.prog 56 [sP l, .fn cf caps] h Q := by
  refine SemC.enter func56 rfl (Nat.le_of_ble_eq_true rfl) fresh fresh_nodup ?_
  have e : renL .o [sP l, .fn cf caps] = [sP l, .fn cf caps] := by simp [renL, AV.ren, sP, hcaps]
  rw [e]
  refine SemW.go tyT_ok mixed ?_
  conv => arg 6; whnf
  refine Holds.mk (by first | (simp; done) | (simp; omega) | omega) ?_
  refine SemW.loop (X := {i : Nat // i ≤ l.findIdx is}) (fun i => [(0, sP l), (1, .fn cf caps), (7, aint l.length), (8, aint i.1)]) (fun _ => []) (fun _ => fresh) (fun i => l.length - i.1) ⟨0, Nat.zero_le _⟩ (SemW.cut ⟨rfl, rfl, rfl, rfl, trivial⟩ trivial fresh_nodup (by simp [avoidT, AV.avoid, sP, avoid_caps hcaps]) rfl) (fun ⟨i, hi⟩ IH => ?_)
  dsimp only at hi IH ⊢
  refine SemW.go tyT_ok mixed ?_
  conv => arg 6; whnf
  refine Holds.mk (by first | (simp; done) | (simp; omega) | omega) ?_
  refine SemW.cond rfl (fun c1 => ?_) (fun c1 => ?_)
  · have hil : i < l.length := by simpa using c1
    have hg : l.getD i ⟨0, 0⟩ = l[i] := by simp [hil]
    refine SemW.go tyT_ok mixed ?_
    conv => arg 6; whnf
    refine Holds.mk ((by simp; exact hil)) ?_
    refine SemW.call0 rfl rfl hf hn hb ?_
    have hcall := hc l[i] (List.getElem_mem hil)
    rw [← hg] at hcall
    refine hcall _ _ ⟨rfl, rfl, _, rfl, rfl, rfl, ?_⟩
    refine SemW.go tyT_ok mixed ?_
    conv => arg 6; whnf
    refine Holds.mk (by first | (simp; done) | (simp; omega) | omega) ?_
    refine SemW.cond rfl (fun c2 => ?_) (fun c2 => ?_)
    · refine SemW.go tyT_ok mixed ?_
      conv => arg 6; whnf
      refine Holds.mk (by first | (simp; done) | (simp; omega) | omega) ?_
      refine SemW.ret0 tyT_ok func56 rfl rfl rfl ?_
      rw [hg] at c2
      have hfi : l.findIdx is = i := by
        refine Nat.le_antisymm (Nat.le_of_not_lt fun hlt => ?_) hi
        have := List.not_of_lt_findIdx hlt
        rw [c2] at this
        cases this
      have : idxF l is = (i : Int) := by simp [idxF, hfi, hil]
      rw [this] at hQ
      exact hQ
    · refine SemW.go tyT_ok mixed ?_
      conv => arg 6; whnf
      refine Holds.mk (by first | (simp; done) | (simp; omega) | omega) ?_
      rw [hg] at c2
      have hi' : i + 1 ≤ l.findIdx is := by
        refine Nat.lt_of_le_of_ne hi fun e => ?_
        have h2 : l.findIdx is < l.length := by omega
        have := List.findIdx_getElem (w := h2)
        simp only [← e] at this
        rw [c2] at this
        cases this
      have IH' := IH ⟨i + 1, hi'⟩ (by show l.length - (i + 1) < l.length - i; omega)
      refine SemW.cut ?_ ?_ fresh_nodup (by simp [avoidT, AV.avoid, sP, avoid_caps hcaps]) rfl IH'
      · exact ⟨rfl, rfl, rfl, incI (by omega), trivial⟩
      · trivial
  · refine SemW.go tyT_ok mixed ?_
    conv => arg 6; whnf
    refine Holds.mk (by first | (simp; done) | (simp; omega) | omega) ?_
    refine SemW.ret0 tyT_ok func56 rfl rfl rfl ?_
    have : idxF l is = -1 := by
      simp at c1
      rw [idxF, if_neg (by omega)]
    rw [this] at hQ
    exact hQ
theorem containsFunc_spec (l : List Pl) (cf : Nat) (g : Func) (caps : List AV) (is : Pl → Bool) (h : Hp) (Q : AV → Hp → List Blk → Prop) (hl : l.length < 2^62) (hcaps : renL .o caps = caps) (hf : Try.prog.funcs[cf]? = some g) (hn : (g.name == "runtime.NumGoroutine") = false) (hb : g.body.isSome = true)
    (hc : ∀ p ∈ l, ∀ h Q, Q (abool (is p)) h [] → SemC Try.prog cf ([encP p] ++ caps) h Q) (hQ : Q (abool (l.any is)) h []) : SemC Try.prog 40 [sP l, .fn cf caps] h Q := by
  refine SemC.enter func40 rfl (Nat.le_of_ble_eq_true rfl) fresh fresh_nodup ?_
  have e : renL .o [sP l, .fn cf caps] = [sP l, .fn cf caps] := by simp [renL, AV.ren, sP, hcaps]
  rw [e]
  refine SemW.go tyT_ok mixed ?_
  conv => arg 6; whnf
  refine Holds.mk (by first | (simp; done) | (simp; omega) | omega) ?_
  refine SemW.call0 rfl rfl func56 rfl rfl ?_
  refine indexFunc_spec l cf g caps is _ _ hl hcaps hf hn hb hc ⟨rfl, rfl, _, rfl, rfl, rfl, ?_⟩
  refine SemW.go tyT_ok mixed ?_
  conv => arg 6; whnf
  refine Holds.mk (by first | (simp; done) | (simp; omega) | omega) ?_
  refine SemW.ret0 tyT_ok func40 rfl rfl rfl ?_
  have : decide (0 ≤ idxF l is) = l.any is := idxF_any l _
  rw [← this] at hQ
  exact hQ
theorem has_spec (l : List Pl) (p : Pl) (h : Hp) (Q : AV → Hp → List Blk → Prop) (hl : l.length < 2^62) (hQ : Q (abool (l.any (· == p))) h []) : SemC Try.prog 30 [sP l, encP p] h Q := by
  refine SemC.enter func30 rfl (Nat.le_of_ble_eq_true rfl) fresh fresh_nodup ?_
  refine SemW.go tyT_ok mixed ?_
  conv => arg 6; whnf
  refine Holds.mk (by first | (simp; done) | (simp; omega) | omega) ?_
  refine SemW.loop (X := {i : Nat // ∀ j (hj : j < l.length), j < i → (l[j] == p) = false}) (fun i => [(0, sP l), (3, .ptr (.l 0) 0), (5, aint i.1)]) (fun _ => [(0, .obj [.val (.int .i64 p.node), .val (.int .u64 p.serial)])]) (fun _ => fresh1) (fun i => l.length - i.1) ⟨0, fun j _ hj => by omega⟩ (SemW.cut ⟨rfl, rfl, rfl, trivial⟩ ⟨rfl, trivial⟩ fresh1_nodup rfl rfl) (fun ⟨i, hi⟩ IH => ?_)
  dsimp only at hi IH ⊢
  refine SemW.go tyT_ok mixed ?_
  conv => arg 6; whnf
  refine Holds.mk (by first | (simp; done) | (simp; omega) | omega) ?_
  refine SemW.cond rfl (fun c1 => ?_) (fun c1 => ?_)
  · have hil : i < l.length := by simpa using c1
    have hg : l.getD i ⟨0, 0⟩ = l[i] := by simp [hil]
    refine SemW.go tyT_ok mixed ?_
    conv => arg 6; whnf
    refine Holds.mk ((by simp; exact hil)) ?_
    refine SemW.cond rfl (fun c2 => ?_) (fun c2 => ?_)
    · refine SemW.go tyT_ok mixed ?_
      conv => arg 6; whnf
      refine Holds.mk (by first | (simp; done) | (simp; omega) | omega) ?_
      refine SemW.ret0 tyT_ok func30 rfl rfl rfl ?_
      have hp : (l[i] == p) = true := by
        rw [← hg, ← eqP]
        simpa using c2
      have : l.any (· == p) = true := List.any_eq_true.2 ⟨l[i], List.getElem_mem hil, hp⟩
      rw [this] at hQ
      exact hQ
    · refine SemW.go tyT_ok mixed ?_
      conv => arg 6; whnf
      refine Holds.mk (by first | (simp; done) | (simp; omega) | omega) ?_
      have hp : (l[i] == p) = false := by
        rw [← hg, ← eqP]
        simpa using c2
      have IH' := IH ⟨i + 1, fun j hj hji => by
        by_cases e : j = i
        · subst e; exact hp
        · exact hi j hj (by omega)⟩ (by show l.length - (i + 1) < l.length - i; omega)
      refine SemW.cut ?_ ?_ fresh1_nodup rfl rfl IH'
      · exact ⟨rfl, rfl, incI (by omega), trivial⟩
      · exact ⟨rfl, trivial⟩
  · refine SemW.go tyT_ok mixed ?_
    conv => arg 6; whnf
    refine Holds.mk (by first | (simp; done) | (simp; omega) | omega) ?_
    refine SemW.ret0 tyT_ok func30 rfl rfl rfl ?_
    have : l.any (· == p) = false := by
      simp at c1
      rw [List.any_eq_false]
      intro x hx
      obtain ⟨j, hj, rfl⟩ := List.getElem_of_mem hx
      have := hi j hj (by omega)
      simpa using this
    rw [this] at hQ
    exact hQ
end Go.Proofs.Try
set_option linter.unusedVariables false
set_option linter.unusedSimpArgs false
open Go Go.AM
namespace Go.Proofs.Try
set_option maxRecDepth 100000
set_option maxHeartbeats 4000000
def fromL (l : List Pl) (k w : Nat) : List Pl := (List.range w).map fun i => l.getD ((k + i) % l.length) ⟨0, 0⟩
theorem fromL_length (l : List Pl) (k w : Nat) : (fromL l k w).length = w := by simp [fromL]
end Go.Proofs.Try
set_option linter.unusedVariables false
set_option linter.unusedSimpArgs false
open Go Go.AM
namespace Go.Proofs.Try
set_option maxRecDepth 100000
set_option maxHeartbeats 4000000
theorem longFrags_spec (l : List Fr) (h : Hp) (Q : AV → Hp → List Blk → Prop) (hl : l.length < 2^62) (hQ : Q (abool (longF l)) h []) : SemC Try.prog 31 [sF l] h Q := by
  refine SemC.enter func31 rfl (Nat.le_of_ble_eq_true rfl) fresh fresh_nodup ?_
  unfold longF at hQ
  refine SemW.go tyT_ok mixed ?_
  conv => arg 6; whnf
  refine Holds.mk (by first | (simp; done) | (simp; omega) | omega) ?_
  refine SemW.cond rfl (fun c0 => ?_) (fun c0 => ?_)
  · refine SemW.go tyT_ok mixed ?_
    conv => arg 6; whnf
    refine Holds.mk (by first | (simp; done) | (simp; omega) | omega) ?_
    refine SemW.ret0 tyT_ok func31 rfl rfl rfl ?_
    have c0' : decide ((l.length : Int) > 30) = true := c0
    rw [c0', Bool.true_or] at hQ
    exact hQ
  · have c0' : decide ((l.length : Int) > 30) = false := c0
    rw [c0', Bool.false_or] at hQ
    refine SemW.go tyT_ok mixed ?_
    conv => arg 6; whnf
    refine Holds.mk (by first | (simp; done) | (simp; omega) | omega) ?_
    refine SemW.loop (X := {i : Nat // i ≤ l.length ∧ ((List.range i).any fun i => decide (((l.getD i F0).books.length : Int) > 30)) = false}) (fun i => [(0, sF l), (3, aint i.1)]) (fun _ => []) (fun _ => fresh) (fun i => l.length - i.1) ⟨0, Nat.zero_le _, rfl⟩ (SemW.cut ⟨rfl, rfl, trivial⟩ trivial fresh_nodup rfl rfl) (fun ⟨i, hi, ha⟩ IH => ?_)
    dsimp only at hi ha IH ⊢
    refine SemW.go tyT_ok mixed ?_
    conv => arg 6; whnf
    refine Holds.mk (by first | (simp; done) | (simp; omega) | omega) ?_
    refine SemW.cond rfl (fun c1 => ?_) (fun c1 => ?_)
    · have hil : i < l.length := by simpa using c1
      refine SemW.go tyT_ok mixed ?_
      conv => arg 6; whnf
      refine Holds.mk ((by simp; omega)) ?_
      refine SemW.cond rfl (fun c2 => ?_) (fun c2 => ?_)
      · refine SemW.go tyT_ok mixed ?_
        conv => arg 6; whnf
        refine Holds.mk (by first | (simp; done) | (simp; omega) | omega) ?_
        refine SemW.ret0 tyT_ok func31 rfl rfl rfl ?_
        rw [any_true hil c2] at hQ
        exact hQ
      · refine SemW.go tyT_ok mixed ?_
        conv => arg 6; whnf
        refine Holds.mk (by first | (simp; done) | (simp; omega) | omega) ?_
        have IH' := IH ⟨i + 1, hil, any_succ ha c2⟩ (by show l.length - (i + 1) < l.length - i; omega)
        refine SemW.cut ?_ ?_ fresh_nodup rfl rfl IH'
        · exact ⟨rfl, incI (by omega), trivial⟩
        · trivial
    · obtain rfl : i = l.length := by simp at c1; omega
      refine SemW.go tyT_ok mixed ?_
      conv => arg 6; whnf
      refine Holds.mk (by first | (simp; done) | (simp; omega) | omega) ?_
      refine SemW.ret0 tyT_ok func31 rfl rfl rfl ?_
      rw [ha] at hQ
      exact hQ
theorem long_spec (l : List Fr) (w : Int) (rows : List (List Pl)) (h : Hp) (Q : AV → Hp → List Blk → Prop) (hl : l.length < 2^62) (hr : rows.length < 2^62) (hQ : Q (abool (longB l w rows)) h []) : SemC Try.prog 10 [sF l, aint w, sR rows] h Q := by
  refine SemC.enter func10 rfl (Nat.le_of_ble_eq_true rfl) fresh fresh_nodup ?_
  unfold longB at hQ
  refine SemW.go tyT_ok mixed ?_
  conv => arg 6; whnf
  refine Holds.mk (by first | (simp; done) | (simp; omega) | omega) ?_
  refine SemW.call0 rfl rfl func31 rfl rfl ?_
  refine longFrags_spec l _ _ hl ⟨rfl, rfl, _, rfl, rfl, rfl, ?_⟩
  refine SemW.go tyT_ok mixed ?_
  conv => arg 6; whnf
  refine Holds.mk (by first | (simp; done) | (simp; omega) | omega) ?_
  refine SemW.split (fun s1 => ?_) (fun s1 => ?_)
  · refine SemW.go tyT_ok mixed ?_
    conv => arg 6; whnf
    refine Holds.mk (by first | (simp; done) | (simp; omega) | omega) ?_
    refine SemW.condT rfl ?_
    refine SemW.go tyT_ok mixed ?_
    conv => arg 6; whnf
    refine Holds.mk (by first | (simp; done) | (simp; omega) | omega) ?_
    refine SemW.ret0 tyT_ok func10 rfl rfl rfl ?_
    rw [s1, Bool.true_or] at hQ
    exact hQ
  · rw [s1, Bool.false_or] at hQ
    refine SemW.go tyT_ok mixed ?_
    conv => arg 6; whnf
    refine Holds.mk (by first | (simp; done) | (simp; omega) | omega) ?_
    refine SemW.cond rfl (fun s2 => ?_) (fun s2 => ?_)
    · refine SemW.go tyT_ok mixed ?_
      conv => arg 6; whnf
      refine Holds.mk (by first | (simp; done) | (simp; omega) | omega) ?_
      refine SemW.ret0 tyT_ok func10 rfl rfl rfl ?_
      have s2' : decide (w > 1000) = true := s2
      rw [s2', Bool.true_or] at hQ
      exact hQ
    · have s2' : decide (w > 1000) = false := s2
      rw [s2', Bool.false_or] at hQ
      refine SemW.go tyT_ok mixed ?_
      conv => arg 6; whnf
      refine Holds.mk (by first | (simp; done) | (simp; omega) | omega) ?_
      refine SemW.loop (X := {i : Nat // i ≤ rows.length ∧ ((List.range i).any fun i => decide (((rows.getD i []).length : Int) > 60)) = false}) (fun i => [(2, sR rows), (7, aint i.1)]) (fun _ => []) (fun _ => fresh) (fun i => rows.length - i.1) ⟨0, Nat.zero_le _, rfl⟩ (SemW.cut ⟨rfl, rfl, trivial⟩ trivial fresh_nodup rfl rfl) (fun ⟨i, hi, ha⟩ IH => ?_)
      dsimp only at hi ha IH ⊢
      refine SemW.go tyT_ok mixed ?_
      conv => arg 6; whnf
      refine Holds.mk (by first | (simp; done) | (simp; omega) | omega) ?_
      refine SemW.cond rfl (fun c1 => ?_) (fun c1 => ?_)
      · have hil : i < rows.length := by simpa using c1
        refine SemW.go tyT_ok mixed ?_
        conv => arg 6; whnf
        refine Holds.mk ((by simp; omega)) ?_
        refine SemW.cond rfl (fun c2 => ?_) (fun c2 => ?_)
        · refine SemW.go tyT_ok mixed ?_
          conv => arg 6; whnf
          refine Holds.mk (by first | (simp; done) | (simp; omega) | omega) ?_
          refine SemW.ret0 tyT_ok func10 rfl rfl rfl ?_
          rw [any_true hil c2] at hQ
          exact hQ
        · refine SemW.go tyT_ok mixed ?_
          conv => arg 6; whnf
          refine Holds.mk (by first | (simp; done) | (simp; omega) | omega) ?_
          have IH' := IH ⟨i + 1, hil, any_succ ha c2⟩ (by show rows.length - (i + 1) < rows.length - i; omega)
          refine SemW.cut ?_ ?_ fresh_nodup rfl rfl IH'
          · exact ⟨rfl, incI (by omega), trivial⟩
          · trivial
      · obtain rfl : i = rows.length := by simp at c1; omega
        refine SemW.go tyT_ok mixed ?_
        conv => arg 6; whnf
        refine Holds.mk (by first | (simp; done) | (simp; omega) | omega) ?_
        refine SemW.ret0 tyT_ok func10 rfl rfl rfl ?_
        rw [ha] at hQ
        exact hQ
end Go.Proofs.Try
