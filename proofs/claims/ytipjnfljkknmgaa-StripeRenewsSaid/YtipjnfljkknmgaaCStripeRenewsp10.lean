/- Part 10 of the proof of the row StripeRenews: written for this claim by the session and by a program of its own. -/
import Derived.Test.YtipjnfljkknmgaaCStripeRenewsp9
import Derived.Test.YtipjnfljkknmgaaCStripeRenewsp8
import Derived.Test.YtipjnfljkknmgaaCStripeRenewsp3
import Derived.Test.YtipjnfljkknmgaaCStripeRenewsp2
set_option linter.unusedVariables false
set_option linter.unusedSimpArgs false
open Go Go.AM
namespace Go.Proofs.Try
set_option maxRecDepth 100000
set_option maxHeartbeats 8000000
/-- the first that is old from k on, as an int; -1: there is none -/
def idxG (b : List Pl) (old : Pl) (k : Nat) : Int := if (b.drop k).findIdx (· == old) < (b.drop k).length then ((k + (b.drop k).findIdx (· == old) : Nat) : Int) else -1
theorem idxG_len (b : List Pl) (old : Pl) : idxG b old b.length = -1 := by unfold idxG; rw [List.drop_length]; simp
theorem idxG_zero (b : List Pl) (old : Pl) : idxG b old 0 = idxF b (· == old) := by unfold idxG idxF; rw [List.drop_zero]; simp
theorem idxG_step {b : List Pl} {old : Pl} {k : Nat} (h : k < b.length) : idxG b old k = if b.getD k P0 == old then (k : Int) else idxG b old (k + 1) := by
  have hg : b.getD k P0 = b[k] := by simp [h]
  unfold idxG
  rw [List.drop_eq_getElem_cons h, List.findIdx_cons, hg]
  cases hb : b[k] == old with
  | true => simp; omega
  | false =>
    simp only [cond_false, List.length_cons, Bool.false_eq_true, if_false, Nat.add_lt_add_iff_right]
    split <;> first | rfl | (congr 1; omega)
theorem replacedF_neg {f : Fr} {old : Pl} (h : idxF f.books (· == old) < 0) : ∀ l, replacedF f old l = (f, false)
  | [] => rfl
  | x :: l => by
    have : (swapF f old x).2 = false := by
      unfold swapF
      rw [if_pos h]
      split <;> rfl
    unfold replacedF
    rw [this, if_neg (by simp)]
    exact replacedF_neg h l
def rnS (fi : Int) (bk kn bad : List Pl) (i : Nat) : Fr × Bool × List Pl := (bk.take i).foldl (rn1 kn bad) (⟨fi, bk⟩, false, [])
theorem rnS_succ {fi : Int} {bk kn bad : List Pl} {i : Nat} (h : i < bk.length) : rnS fi bk kn bad (i + 1) = rn1 kn bad (rnS fi bk kn bad i) (bk.getD i P0) := by
  have hg : bk.getD i P0 = bk[i] := by simp [h]
  rw [hg]
  exact foldl_take (rn1 kn bad) (⟨fi, bk⟩, false, []) h
theorem rnS_len (fi : Int) (bk kn bad : List Pl) (i : Nat) : (rnS fi bk kn bad i).1.books.length = bk.length ∧ (rnS fi bk kn bad i).2.2.length ≤ i := by
  have h1 := rn1_len kn bad (bk.take i) (⟨fi, bk⟩, false, [])
  have h2 : (bk.take i).length ≤ i := by simp; omega
  refine ⟨h1.1, ?_⟩
  have := h1.2
  simp only [List.length_nil] at this
  unfold rnS
  omega
theorem replacedF_first (f : Fr) (old : Pl) : ∀ l, (replacedF f old l).1.first = f.first
  | [] => rfl
  | x :: l => by
    unfold replacedF
    split
    · rename_i h
      revert h
      unfold swapF
      split
      · intro h; cases h
      · split
        · intro h; cases h
        · intro _; rfl
    · exact replacedF_first f old l
theorem rnS_first (fi : Int) (bk kn bad : List Pl) (i : Nat) : (rnS fi bk kn bad i).1.first = fi := by
  have key : ∀ (l : List Pl) (s : Fr × Bool × List Pl), (l.foldl (rn1 kn bad) s).1.first = s.1.first := by
    intro l
    induction l with
    | nil => intro s; rfl
    | cons x l ih =>
      intro s
      rw [List.foldl_cons, ih]
      unfold rn1
      split
      · exact replacedF_first _ _ _
      · rfl
  exact key _ _
def rn2S (w : Int) (gb : List Pl) (so : Bool) (lf : List Pl) (i : Nat) : List Pl × Bool := (lf.take i).foldl (rn2 w) (gb, so)
theorem rn2S_succ {w : Int} {gb : List Pl} {so : Bool} {lf : List Pl} {i : Nat} (h : i < lf.length) : rn2S w gb so lf (i + 1) = rn2 w (rn2S w gb so lf i) (lf.getD i P0) := by
  have hg : lf.getD i P0 = lf[i] := by simp [h]
  rw [hg]
  exact foldl_take (rn2 w) (gb, so) h
theorem rn2S_len (w : Int) (gb : List Pl) (so : Bool) (lf : List Pl) (i : Nat) : (rn2S w gb so lf i).1.length ≤ gb.length := rn2_len w (lf.take i) (gb, so)
def rn3S (e : Int) (b kn : List Pl) (i : Nat) : List Pl := (kn.take i).foldl (rn3 e) b
theorem rn3S_succ {e : Int} {b kn : List Pl} {i : Nat} (h : i < kn.length) : rn3S e b kn (i + 1) = rn3 e (rn3S e b kn i) (kn.getD i P0) := by
  have hg : kn.getD i P0 = kn[i] := by simp [h]
  rw [hg]
  exact foldl_take (rn3 e) b h
theorem rn3S_len (e : Int) (b kn : List Pl) : ∀ i, (rn3S e b kn i).length ≤ b.length + kn.length := by
  have key : ∀ (l : List Pl) (c : List Pl), (l.foldl (rn3 e) c).length ≤ c.length + l.length := by
    intro l
    induction l with
    | nil => intro c; exact Nat.le_refl _
    | cons x l ih =>
      intro c
      have h := ih (rn3 e c x)
      have h2 : (rn3 e c x).length ≤ c.length + 1 := by unfold rn3; split <;> simp
      simp only [List.foldl_cons, List.length_cons]
      omega
  intro i
  have := key (kn.take i) b
  have h2 : (kn.take i).length ≤ kn.length := by simp; omega
  unfold rn3S
  omega
theorem nodeB_neg (l : List Pl) (n : Int) : (List.range l.length).any (nodeB l n (-1)) = l.any fun y => y.node == n := by
  cases hb : l.any fun y => y.node == n with
  | true =>
    obtain ⟨y, hy, hn⟩ := List.any_eq_true.1 hb
    obtain ⟨i, hi, rfl⟩ := List.getElem_of_mem hy
    refine any_true hi ?_
    unfold nodeB
    simp only [List.getD_eq_getElem?_getD, List.getElem?_eq_getElem hi, Option.getD_some, hn, Bool.and_true, Bool.not_eq_true', beq_eq_false_iff_ne]
    omega
  | false =>
    rw [List.any_eq_false] at hb ⊢
    intro i hi
    have hi' : i < l.length := by simpa using hi
    unfold nodeB
    have := hb l[i] (List.getElem_mem hi')
    simp only [List.getD_eq_getElem?_getD, List.getElem?_eq_getElem hi', Option.getD_some]
    simp only [beq_iff_eq] at this
    simp [this]
theorem cutP {b : List Pl} {k : Nat} (hk : k < b.length) : ∀ j, j < (b.take k ++ b.drop (k + 1)).length → (bif Nat.blt j k then encP (b.getD j ⟨0, 0⟩) else encP (b.getD (k + 1 + (j - k)) ⟨0, 0⟩)) = encP ((b.take k ++ b.drop (k + 1)).getD j ⟨0, 0⟩) := by
  intro j hj
  have hlen : (b.take k).length = k := by simp; omega
  cases hb2 : Nat.blt j k with
  | true =>
    have hlt := Nat.blt_eq.mp hb2
    simp only [cond_true, List.getD_eq_getElem?_getD]
    rw [List.getElem?_append_left (by omega)]
    rw [List.getElem?_take_of_lt hlt]
  | false =>
    have hge : k ≤ j := Nat.le_of_not_lt fun hlt => by rw [← Nat.blt_eq, hb2] at hlt; cases hlt
    obtain ⟨m, rfl⟩ := Nat.exists_eq_add_of_le hge
    simp only [cond_false, List.getD_eq_getElem?_getD, Nat.add_sub_cancel_left]
    rw [List.getElem?_append_right (by omega), hlen, Nat.add_sub_cancel_left, List.getElem?_drop]
abbrev rowP (l : List Pl) (g : Nat) : Blk := .arr true g 2 l.length (fun i => encP (l.getD i ⟨0, 0⟩))
abbrev ownP (k : Nat) (l : List Pl) (g : Nat) : AV := .sl (.l k) g 2 0 l.length l.length
theorem setP {l : List Pl} {a : Nat} {x : Pl} {n : Nat} (hn : l.length = n) : ∀ j, j < n → (bif Nat.beq j (0 + ((a : Nat) : Int).toNat) then putE true ((fun i => encP (l.getD i ⟨0, 0⟩)) (0 + ((a : Nat) : Int).toNat)) 0 (encP x) else (fun i => encP (l.getD i ⟨0, 0⟩)) j) = encP ((l.set a x).getD j ⟨0, 0⟩) := by
  intro j hj
  simp only [Nat.zero_add, Int.toNat_natCast]
  cases hb : Nat.beq j a with
  | true =>
    have e := Nat.eq_of_beq_eq_true hb
    subst e
    have : (l.set j x).getD j ⟨0, 0⟩ = x := by simp [hn, hj]
    rw [this]
    rfl
  | false =>
    have e : a ≠ j := fun e => by subst e; simp at hb
    have : (l.set a x).getD j ⟨0, 0⟩ = l.getD j ⟨0, 0⟩ := by simp [List.getElem?_set_ne e]
    rw [this]
    rfl
theorem rrenew_spec (fi : Int) (bk : List Pl) (w e : Int) (bad known : List Pl) (h : Hp) (Q : AV → Hp → List Blk → Prop) (hbk : bk.length < 2^40) (hbad : bad.length < 2^40) (hkn : known.length < 2^40) (hQ : Q (.tup [encF (renewF ⟨fi, bk⟩ w e bad known).1, abool (renewF ⟨fi, bk⟩ w e bad known).2]) h []) :
    SemC Try.prog 29 [encF ⟨fi, bk⟩, aint w, aint e, sP bad, sP known] h Q := by
  refine SemC.enter func29 rfl (Nat.le_of_ble_eq_true rfl) fresh fresh_nodup ?_
  refine SemW.entT rfl ?_
  refine SemW.go tyT_ok mixed ?_
  conv => arg 6; whnf
  refine Holds.mk (by first | (simp; done) | (simp; omega) | omega) ?_
  refine SemW.nilRow (t := 12) true 2 (fun i => encP (([] : List Pl).getD i ⟨0, 0⟩)) rfl ?_
  refine SemW.loopG (X := {x : Nat × Nat // x.1 ≤ known.length}) (fun x => [(12, ownP 2 (keptL (known.take x.1.1) (badB bad)) x.1.2), (13, aint x.1.1)]) (fun x => [(2, rowP (keptL (known.take x.1.1) (badB bad)) x.1.2)]) (fun x => known.length - x.1.1) (⟨(0, 0), Nat.zero_le _⟩) ?_
  conv => arg 13; whnf
  refine LoopC.mk ?sT ?sL (by decide) rfl rfl ?_
  case sT => repeat' first | exact trivial | refine And.intro ?_ ?_ | (first | exact AvLe.of (incI (by omega)) | exact AvLe.of (incU (by omega)) | exact AvLe.of (decI (by omega)) | exact AvLe.refl _ | exact AvLe.sl (by first | rfl | (simp; done) | omega) (by first | exact Nat.le_refl _ | (simp; done) | omega) (by first | exact Nat.le_refl _ | (simp; done) | (simp; omega) | omega))
  case sL => repeat' first | exact trivial | refine And.intro ?_ ?_ | exact ⟨_, rfl, BlkLe.refl _⟩ | exact ⟨_, rfl, BlkLe.arr (by simp; done) (app1P rfl)⟩ | exact ⟨_, rfl, BlkLe.arr (by simp; done) (app1E rfl)⟩ | exact ⟨_, rfl, BlkLe.arr (by simp; done) (fun j _ => by simp [blt_zero]; done)⟩
  rintro ⟨⟨i, gl⟩, hi⟩ IH
  dsimp only at hi IH ⊢
  refine SemW.go tyT_ok mixed ?_
  conv => arg 6; whnf
  refine Holds.mk (by first | (simp; done) | (simp; omega) | omega) ?_
  refine SemW.cond rfl (fun c1 => ?_) (fun c1 => ?_)
  · have hil : i < known.length := by simpa using c1
    have IH' := fun gl' => IH ⟨(i + 1, gl'), hil⟩ (by show known.length - (i + 1) < known.length - i; omega)
    dsimp only at IH'
    rw [keptL_take hil] at IH'
    have hg : known.getD i ⟨0, 0⟩ = known[i] := by simp [hil]
    have hle := keptL_le known (badB bad) i
    rw [← hg] at IH'
    have hbb : badB bad (known.getD i ⟨0, 0⟩) = bad.any (· == known.getD i ⟨0, 0⟩) := rfl
    rw [hbb] at IH'
    clear IH
    generalize keptL (known.take i) (badB bad) = kt at *
    refine SemW.go tyT_ok mixed ?_
    conv => arg 6; whnf
    refine Holds.mk ((by simp; omega)) ?_
    refine SemW.call0 rfl rfl func30 rfl rfl ?_
    refine has_spec bad (known.getD i ⟨0, 0⟩) _ _ (by omega) ⟨rfl, rfl, _, rfl, rfl, rfl, ?_⟩
    refine SemW.go tyT_ok mixed ?_
    conv => arg 6; whnf
    refine Holds.mk (by first | (simp; done) | (simp; omega) | omega) ?_
    refine SemW.cond rfl (fun c2 => ?_) (fun c2 => ?_)
    · rw [if_neg (by rw [Bool.not_eq_true'] at c2; rw [c2]; simp)] at IH'
      refine SemW.go tyT_ok mixed ?_
      conv => arg 6; whnf
      refine Holds.mk ((by simp; omega)) ?_
      refine SemW.back (IH' (gl + 1)) ?bT ?bL rfl rfl (by decide) rfl rfl
      case bT => repeat' first | exact trivial | refine And.intro ?_ ?_ | (first | exact AvLe.of (incI (by omega)) | exact AvLe.of (incU (by omega)) | exact AvLe.of (decI (by omega)) | exact AvLe.refl _ | exact AvLe.sl (by first | rfl | (simp; done) | omega) (by first | exact Nat.le_refl _ | (simp; done) | omega) (by first | exact Nat.le_refl _ | (simp; done) | (simp; omega) | omega))
      case bL => repeat' first | exact trivial | refine And.intro ?_ ?_ | exact ⟨_, rfl, BlkLe.refl _⟩ | exact ⟨_, rfl, BlkLe.arr (by simp; done) (app1P rfl)⟩ | exact ⟨_, rfl, BlkLe.arr (by simp; done) (app1E rfl)⟩ | exact ⟨_, rfl, BlkLe.arr (by simp; done) (fun j _ => by simp [blt_zero]; done)⟩
    · rw [if_pos (by rw [Bool.not_eq_false'] at c2; exact c2)] at IH'
      refine SemW.go tyT_ok mixed ?_
      conv => arg 6; whnf
      refine Holds.mk (by first | (simp; done) | (simp; omega) | omega) ?_
      refine SemW.back (IH' gl) ?bT ?bL rfl rfl (by decide) rfl rfl
      case bT => repeat' first | exact trivial | refine And.intro ?_ ?_ | (first | exact AvLe.of (incI (by omega)) | exact AvLe.of (incU (by omega)) | exact AvLe.of (decI (by omega)) | exact AvLe.refl _ | exact AvLe.sl (by first | rfl | (simp; done) | omega) (by first | exact Nat.le_refl _ | (simp; done) | omega) (by first | exact Nat.le_refl _ | (simp; done) | (simp; omega) | omega))
      case bL => repeat' first | exact trivial | refine And.intro ?_ ?_ | exact ⟨_, rfl, BlkLe.refl _⟩ | exact ⟨_, rfl, BlkLe.arr (by simp; done) (app1P rfl)⟩ | exact ⟨_, rfl, BlkLe.arr (by simp; done) (app1E rfl)⟩ | exact ⟨_, rfl, BlkLe.arr (by simp; done) (fun j _ => by simp [blt_zero]; done)⟩
  · obtain rfl : i = known.length := by simp at c1; omega
    rw [List.take_length] at *
    have hknl : (keptL known (badB bad)).length < 2^40 := by
      have := List.length_filter_le (fun p => !(badB bad p)) known
      unfold keptL
      omega
    unfold renewF at hQ
    dsimp only at hQ
    clear IH
    generalize keptL known (badB bad) = kn at *
    refine SemW.frzA 2 ?_
    conv => arg 6; whnf
    refine Holds.mk (by repeat' first | exact trivial | refine And.intro ?_ ?_ | exact rfl | exact Nat.le_refl _ | exact Nat.le_of_eq (Nat.zero_add _) | (simp [Blk.num, Blk.gen]; done) | (simp [Blk.num, Blk.gen]; omega)) ?_
    refine SemW.tellT [(12, sP kn)] ⟨by first | exact AvLe.refl _ | exact AvLe.vs rfl (fun i _ => by rw [Nat.zero_add]) | exact AvLe.vs (by simp) (fun i _ => by simp) | exact AvLe.nil _ _ _ _, trivial⟩ ?_
    refine SemW.go tyT_ok mixed ?_
    conv => arg 6; whnf
    refine Holds.mk (by first | (simp; done) | (simp; omega) | omega) ?_
    refine SemW.nilRow (t := 15) true 2 (fun i => encP (([] : List Pl).getD i ⟨0, 0⟩)) rfl ?_
    refine SemW.loopG (X := {x : Nat × Nat // x.1 ≤ bk.length}) (fun x => [(14, ownP 3 (rnS fi bk kn bad x.1.1).1.books 1), (15, ownP 4 (rnS fi bk kn bad x.1.1).2.2 x.1.2), (16, abool (rnS fi bk kn bad x.1.1).2.1), (17, aint x.1.1)]) (fun x => [(4, rowP (rnS fi bk kn bad x.1.1).2.2 x.1.2), (3, rowP (rnS fi bk kn bad x.1.1).1.books 1)]) (fun x => bk.length - x.1.1) (⟨(0, 0), Nat.zero_le _⟩) ?_
    conv => arg 13; whnf
    refine LoopC.mk ?sT ?sL (by decide) rfl rfl ?_
    case sT => repeat' first | exact trivial | refine And.intro ?_ ?_ | (exact AvLe.sl (Nat.zero_add _) (Nat.le_refl _) (Nat.le_of_eq (by simp [rnS]; done))) | (first | exact AvLe.of (incI (by omega)) | exact AvLe.of (incU (by omega)) | exact AvLe.of (decI (by omega)) | exact AvLe.refl _ | exact AvLe.sl (by first | rfl | (simp; done) | omega) (by first | exact Nat.le_refl _ | (simp; done) | omega) (by first | exact Nat.le_refl _ | (simp; done) | (simp; omega) | omega))
    case sL => repeat' first | exact trivial | refine And.intro ?_ ?_ | (exact ⟨_, rfl, BlkLe.arr (Nat.le_of_eq (Nat.zero_add _).symm) (fun j _ => by simp [blt_zero, rnS]; done)⟩) | exact ⟨_, rfl, BlkLe.refl _⟩ | exact ⟨_, rfl, BlkLe.arr (by simp; done) (app1P rfl)⟩ | exact ⟨_, rfl, BlkLe.arr (by simp; done) (app1E rfl)⟩ | exact ⟨_, rfl, BlkLe.arr (by simp; done) (fun j _ => by simp [blt_zero]; done)⟩
    rintro ⟨⟨i, gl⟩, hi⟩ IH
    dsimp only at hi IH ⊢
    have hlen := rnS_len fi bk kn bad i
    refine SemW.go tyT_ok mixed ?_
    conv => arg 6; whnf
    refine Holds.mk (by first | (simp; done) | (simp; omega) | omega) ?_
    refine SemW.cond rfl (fun c3 => ?_) (fun c3 => ?_)
    · have hil : i < bk.length := by simpa using c3
      have IH' := fun gl' => IH ⟨(i + 1, gl'), hil⟩ (by show bk.length - (i + 1) < bk.length - i; omega)
      dsimp only at IH'
      rw [rnS_succ hil] at IH'
      clear IH
      generalize rnS fi bk kn bad i = s at *
      obtain ⟨⟨gf, gb⟩, so, lf⟩ := s
      dsimp only at *
      refine SemW.go tyT_ok mixed ?_
      conv => arg 6; whnf
      refine Holds.mk (by first | (simp; done) | (simp; omega) | omega) ?_
      refine SemW.call0 rfl rfl func30 rfl rfl ?_
      refine has_spec bad (bk.getD i ⟨0, 0⟩) _ _ (by omega) ⟨rfl, rfl, _, rfl, rfl, rfl, ?_⟩
      refine SemW.go tyT_ok mixed ?_
      conv => arg 6; whnf
      refine Holds.mk (by first | (simp; done) | (simp; omega) | omega) ?_
      refine SemW.cond rfl (fun c4 => ?_) (fun c4 => ?_)
      · have hnb : badB bad (bk.getD i ⟨0, 0⟩) = false := by rw [Bool.not_eq_true'] at c4; exact c4
        have hs : rn1 kn bad (⟨gf, gb⟩, so, lf) (bk.getD i ⟨0, 0⟩) = (⟨gf, gb⟩, so, lf) := by unfold rn1; rw [if_neg (by rw [hnb]; simp)]
        rw [hs] at IH'
        refine SemW.go tyT_ok mixed ?_
        conv => arg 6; whnf
        refine Holds.mk (by first | (simp; done) | (simp; omega) | omega) ?_
        refine SemW.back (IH' gl) ?bT ?bL rfl rfl (by decide) rfl rfl
        case bT => repeat' first | exact trivial | refine And.intro ?_ ?_ | (first | exact AvLe.of (incI (by omega)) | exact AvLe.of (incU (by omega)) | exact AvLe.of (decI (by omega)) | exact AvLe.refl _ | exact AvLe.sl (by first | rfl | (simp; done) | omega) (by first | exact Nat.le_refl _ | (simp; done) | omega) (by first | exact Nat.le_refl _ | (simp; done) | (simp; omega) | omega))
        case bL => repeat' first | exact trivial | refine And.intro ?_ ?_ | exact ⟨_, rfl, BlkLe.refl _⟩ | exact ⟨_, rfl, BlkLe.arr (by simp; done) (app1P rfl)⟩ | exact ⟨_, rfl, BlkLe.arr (by simp; done) (app1E rfl)⟩ | exact ⟨_, rfl, BlkLe.arr (by simp; done) (fun j _ => by simp [blt_zero]; done)⟩
      · have hnb : badB bad (bk.getD i ⟨0, 0⟩) = true := by rw [Bool.not_eq_false'] at c4; exact c4
        have hs : rn1 kn bad (⟨gf, gb⟩, so, lf) (bk.getD i ⟨0, 0⟩) = ((replacedF ⟨gf, gb⟩ (bk.getD i ⟨0, 0⟩) kn).1, so || (replacedF ⟨gf, gb⟩ (bk.getD i ⟨0, 0⟩) kn).2, if (replacedF ⟨gf, gb⟩ (bk.getD i ⟨0, 0⟩) kn).2 then lf else lf ++ [bk.getD i ⟨0, 0⟩]) := by unfold rn1; rw [if_pos hnb]
        rw [hs] at IH'
        refine SemW.go tyT_ok mixed ?_
        conv => arg 6; whnf
        refine Holds.mk (by first | (simp; done) | (simp; omega) | omega) ?_
        refine SemW.loopG (X := {k : Nat // k ≤ gb.length}) (fun x => [(18, aint (idxG gb (bk.getD i P0) x.1)), (19, aint ((x.1 : Int) - 1))]) (fun x => []) (fun x => x.1) (⟨gb.length, Nat.le_refl _⟩) ?_
        conv => arg 13; whnf
        refine LoopC.mk ?sT ?sL (by decide) rfl rfl ?_
        case sT => repeat' first | exact trivial | refine And.intro ?_ ?_ | (exact AvLe.of (by rw [idxG_len]; rfl)) | (first | exact AvLe.of (incI (by omega)) | exact AvLe.of (incU (by omega)) | exact AvLe.of (decI (by omega)) | exact AvLe.refl _ | exact AvLe.sl (by first | rfl | (simp; done) | omega) (by first | exact Nat.le_refl _ | (simp; done) | omega) (by first | exact Nat.le_refl _ | (simp; done) | (simp; omega) | omega))
        case sL => repeat' first | exact trivial | refine And.intro ?_ ?_ | exact ⟨_, rfl, BlkLe.refl _⟩ | exact ⟨_, rfl, BlkLe.arr (by simp; done) (app1P rfl)⟩ | exact ⟨_, rfl, BlkLe.arr (by simp; done) (app1E rfl)⟩ | exact ⟨_, rfl, BlkLe.arr (by simp; done) (fun j _ => by simp [blt_zero]; done)⟩
        rintro ⟨k, hk⟩ IH
        dsimp only at hk IH ⊢
        refine SemW.go tyT_ok mixed ?_
        conv => arg 6; whnf
        refine Holds.mk (by first | (simp; done) | (simp; omega) | omega) ?_
        refine SemW.cond rfl (fun c5 => ?_) (fun c5 => ?_)
        · obtain ⟨m, rfl⟩ : ∃ m, k = m + 1 := ⟨k - 1, by simp at c5; omega⟩
          have hm : m < gb.length := by omega
          have em : ((m + 1 : Nat) : Int) - 1 = m := by omega
          have IH2' := IH ⟨m, by omega⟩ (by show m < m + 1; omega)
          dsimp only at IH2'
          rw [idxG_step hm] at IH2'
          simp only [em]
          refine SemW.go tyT_ok mixed ?_
          conv => arg 6; whnf
          refine Holds.mk (by first | (simp; done) | (simp; omega) | omega) ?_
          refine SemW.cond rfl (fun c6 => ?_) (fun c6 => ?_)
          · have c6' : (gb.getD m P0 == bk.getD i P0) = true := by rw [Nat.zero_add] at c6; rw [← eqP]; exact c6
            rw [if_pos c6'] at IH2'
            refine SemW.go tyT_ok mixed ?_
            conv => arg 6; whnf
            refine Holds.mk (by first | (simp; done) | (simp; omega) | omega) ?_
            refine SemW.back (IH2') ?bT ?bL rfl rfl (by decide) rfl rfl
            case bT => repeat' first | exact trivial | refine And.intro ?_ ?_ | (first | exact AvLe.of (incI (by omega)) | exact AvLe.of (incU (by omega)) | exact AvLe.of (decI (by omega)) | exact AvLe.refl _ | exact AvLe.sl (by first | rfl | (simp; done) | omega) (by first | exact Nat.le_refl _ | (simp; done) | omega) (by first | exact Nat.le_refl _ | (simp; done) | (simp; omega) | omega))
            case bL => repeat' first | exact trivial | refine And.intro ?_ ?_ | exact ⟨_, rfl, BlkLe.refl _⟩ | exact ⟨_, rfl, BlkLe.arr (by simp; done) (app1P rfl)⟩ | exact ⟨_, rfl, BlkLe.arr (by simp; done) (app1E rfl)⟩ | exact ⟨_, rfl, BlkLe.arr (by simp; done) (fun j _ => by simp [blt_zero]; done)⟩
          · have c6' : (gb.getD m P0 == bk.getD i P0) = false := by rw [Nat.zero_add] at c6; rw [← eqP]; exact c6
            rw [if_neg (by rw [c6']; simp)] at IH2'
            refine SemW.go tyT_ok mixed ?_
            conv => arg 6; whnf
            refine Holds.mk (by first | (simp; done) | (simp; omega) | omega) ?_
            refine SemW.back (IH2') ?bT ?bL rfl rfl (by decide) rfl rfl
            case bT => repeat' first | exact trivial | refine And.intro ?_ ?_ | (first | exact AvLe.of (incI (by omega)) | exact AvLe.of (incU (by omega)) | exact AvLe.of (decI (by omega)) | exact AvLe.refl _ | exact AvLe.sl (by first | rfl | (simp; done) | omega) (by first | exact Nat.le_refl _ | (simp; done) | omega) (by first | exact Nat.le_refl _ | (simp; done) | (simp; omega) | omega))
            case bL => repeat' first | exact trivial | refine And.intro ?_ ?_ | exact ⟨_, rfl, BlkLe.refl _⟩ | exact ⟨_, rfl, BlkLe.arr (by simp; done) (app1P rfl)⟩ | exact ⟨_, rfl, BlkLe.arr (by simp; done) (app1E rfl)⟩ | exact ⟨_, rfl, BlkLe.arr (by simp; done) (fun j _ => by simp [blt_zero]; done)⟩
        · obtain rfl : k = 0 := by simp at c5; omega
          rw [idxG_zero]
          clear IH
          refine SemW.go tyT_ok mixed ?_
          conv => arg 6; whnf
          refine Holds.mk (by first | (simp; done) | (simp; omega) | omega) ?_
          have hneg : idxF gb (· == bk.getD i P0) < 0 → replacedF ⟨gf, gb⟩ (bk.getD i P0) kn = (⟨gf, gb⟩, false) := fun h => replacedF_neg h kn
          have hswap : ∀ x, swapF ⟨gf, gb⟩ (bk.getD i P0) x = if otherB gb (idxF gb (· == bk.getD i P0)) x gb.length then (F0, false) else if idxF gb (· == bk.getD i P0) < 0 then (F0, false) else (⟨gf, gb.set (idxF gb (· == bk.getD i P0)).toNat x⟩, true) := fun _ => rfl
          have hat : idxF gb (· == bk.getD i P0) < gb.length ∧ -1 ≤ idxF gb (· == bk.getD i P0) := by
            unfold idxF
            split <;> omega
          generalize idxF gb (· == bk.getD i P0) = at_ at *
          refine SemW.loopG (X := {x : Nat × List Pl × Bool // x.1 ≤ kn.length ∧ x.2.1.length = gb.length ∧ ((x.2.2 = false ∧ x.2.1 = gb ∧ replacedF ⟨gf, gb⟩ (bk.getD i P0) kn = replacedF ⟨gf, gb⟩ (bk.getD i P0) (kn.drop x.1)) ∨ (x.2.2 = true ∧ replacedF ⟨gf, gb⟩ (bk.getD i P0) kn = (⟨gf, x.2.1⟩, true)))}) (fun x => [(20, abool x.1.2.2), (21, aint x.1.1)]) (fun x => [(3, .arr true 1 2 gb.length (fun i => encP (x.1.2.1.getD i ⟨0, 0⟩)))]) (fun x => kn.length - x.1.1) (⟨(0, gb, false), Nat.zero_le _, rfl, .inl ⟨rfl, rfl, rfl⟩⟩) ?_
          conv => arg 13; whnf
          refine LoopC.mk ?sT ?sL (by decide) rfl rfl ?_
          case sT => repeat' first | exact trivial | refine And.intro ?_ ?_ | (first | exact AvLe.of (incI (by omega)) | exact AvLe.of (incU (by omega)) | exact AvLe.of (decI (by omega)) | exact AvLe.refl _ | exact AvLe.sl (by first | rfl | (simp; done) | omega) (by first | exact Nat.le_refl _ | (simp; done) | omega) (by first | exact Nat.le_refl _ | (simp; done) | (simp; omega) | omega))
          case sL => repeat' first | exact trivial | refine And.intro ?_ ?_ | exact ⟨_, rfl, BlkLe.refl _⟩ | exact ⟨_, rfl, BlkLe.arr (by simp; done) (app1P rfl)⟩ | exact ⟨_, rfl, BlkLe.arr (by simp; done) (app1E rfl)⟩ | exact ⟨_, rfl, BlkLe.arr (by simp; done) (fun j _ => by simp [blt_zero]; done)⟩
          rintro ⟨⟨k, b, done⟩, hk, hbl, hinv⟩ IH
          dsimp only at hk hbl hinv IH ⊢
          refine SemW.go tyT_ok mixed ?_
          conv => arg 6; whnf
          refine Holds.mk (by first | (simp; done) | (simp; omega) | omega) ?_
          refine SemW.split (fun c6 => ?_) (fun c6 => ?_)
          · have hkl : k < kn.length := by simpa using c6
            refine SemW.go tyT_ok mixed ?_
            conv => arg 6; whnf
            refine Holds.mk (by first | (simp; done) | (simp; omega) | omega) ?_
            refine SemW.split (fun c7 => ?_) (fun c7 => ?_)
            · have ha0 : 0 ≤ at_ := by simpa using c7
              refine SemW.go tyT_ok mixed ?_
              conv => arg 6; whnf
              refine Holds.mk (by first | (simp; done) | (simp; omega) | omega) ?_
              refine SemW.cond rfl (fun c8 => ?_) (fun c8 => ?_)
              · have hd : done = false := by simpa using c8
                subst hd
                have hr : b = gb ∧ replacedF ⟨gf, gb⟩ (bk.getD i P0) kn = replacedF ⟨gf, gb⟩ (bk.getD i P0) (kn.drop k) := by
                  rcases hinv with ⟨_, h1, h2⟩ | ⟨h0, _⟩
                  · exact ⟨h1, h2⟩
                  · cases h0
                obtain ⟨rfl, hr⟩ := hr
                rw [replacedF_drop hkl, hswap] at hr
                obtain ⟨a, rfl⟩ : ∃ m : Nat, at_ = m := ⟨at_.toNat, by omega⟩
                simp only [show ¬ ((a : Int) < 0) by omega, if_false] at hr
                refine SemW.go tyT_ok mixed ?_
                conv => arg 6; whnf
                refine Holds.mk (by first | (simp; done) | (simp; omega) | omega) ?_
                refine SemW.call0 rfl rfl func51 rfl rfl ?_
                refine SemC.view [sP b, aint (kn.getD k P0).node, aint a] ⟨AvLe.vs rfl (fun i _ => by rw [Nat.zero_add]), AvLe.refl _, AvLe.refl _, trivial⟩ ⟨⟨Nat.le_of_eq (Nat.zero_add _), rfl⟩, trivial, trivial, trivial⟩ ?_
                refine node_spec b (kn.getD k P0).node a _ _ (by omega) ⟨rfl, trivial, rfl, rfl, _, rfl, rfl, rfl, ?_⟩
                have ho : (List.range b.length).any (nodeB b (kn.getD k P0).node a) = otherB b a (kn.getD k P0) b.length := rfl
                rw [ho]
                refine SemW.go tyT_ok mixed ?_
                conv => arg 6; whnf
                refine Holds.mk (by first | (simp; done) | (simp; omega) | omega) ?_
                refine SemW.cond rfl (fun c9 => ?_) (fun c9 => ?_)
                · have c9' : otherB b a (kn.getD k P0) b.length = false := by rw [Bool.not_eq_true'] at c9; exact c9
                  simp only [c9', Bool.false_eq_true, if_false, if_true] at hr
                  refine SemW.go tyT_ok mixed ?_
                  conv => arg 6; whnf
                  refine Holds.mk (by first | (simp; done) | (simp; omega) | omega) ?_
                  refine SemW.back (IH ⟨(k + 1, b.set a (kn.getD k P0), true), hkl, by simp, .inr ⟨rfl, by simpa using hr⟩⟩ (by show kn.length - (k + 1) < kn.length - k; omega)) ?bT ?bL rfl rfl (by decide) rfl rfl
                  case bT => repeat' first | exact trivial | refine And.intro ?_ ?_ | (fail) | (first | exact AvLe.of (incI (by omega)) | exact AvLe.of (incU (by omega)) | exact AvLe.of (decI (by omega)) | exact AvLe.refl _ | exact AvLe.sl (by first | rfl | (simp; done) | omega) (by first | exact Nat.le_refl _ | (simp; done) | omega) (by first | exact Nat.le_refl _ | (simp; done) | (simp; omega) | omega))
                  case bL => repeat' first | exact trivial | refine And.intro ?_ ?_ | (exact ⟨_, rfl, BlkLe.arr (Nat.le_refl _) (setP hbl)⟩) | exact ⟨_, rfl, BlkLe.refl _⟩ | exact ⟨_, rfl, BlkLe.arr (by simp; done) (app1P rfl)⟩ | exact ⟨_, rfl, BlkLe.arr (by simp; done) (app1E rfl)⟩ | exact ⟨_, rfl, BlkLe.arr (by simp; done) (fun j _ => by simp [blt_zero]; done)⟩
                · have c9' : otherB b a (kn.getD k P0) b.length = true := by rw [Bool.not_eq_false'] at c9; exact c9
                  simp only [c9', if_true, Bool.false_eq_true, if_false] at hr
                  refine SemW.go tyT_ok mixed ?_
                  conv => arg 6; whnf
                  refine Holds.mk (by first | (simp; done) | (simp; omega) | omega) ?_
                  refine SemW.back (IH ⟨(k + 1, b, false), hkl, rfl, .inl ⟨rfl, rfl, hr⟩⟩ (by show kn.length - (k + 1) < kn.length - k; omega)) ?bT ?bL rfl rfl (by decide) rfl rfl
                  case bT => repeat' first | exact trivial | refine And.intro ?_ ?_ | (first | exact AvLe.of (incI (by omega)) | exact AvLe.of (incU (by omega)) | exact AvLe.of (decI (by omega)) | exact AvLe.refl _ | exact AvLe.sl (by first | rfl | (simp; done) | omega) (by first | exact Nat.le_refl _ | (simp; done) | omega) (by first | exact Nat.le_refl _ | (simp; done) | (simp; omega) | omega))
                  case bL => repeat' first | exact trivial | refine And.intro ?_ ?_ | exact ⟨_, rfl, BlkLe.refl _⟩ | exact ⟨_, rfl, BlkLe.arr (by simp; done) (app1P rfl)⟩ | exact ⟨_, rfl, BlkLe.arr (by simp; done) (app1E rfl)⟩ | exact ⟨_, rfl, BlkLe.arr (by simp; done) (fun j _ => by simp [blt_zero]; done)⟩
              · have hd : done = true := by simpa using c8
                have fin : (done = true ∧ replacedF ⟨gf, gb⟩ (bk.getD i P0) kn = (⟨gf, b⟩, true)) ∨ (done = false ∧ b = gb ∧ replacedF ⟨gf, gb⟩ (bk.getD i P0) kn = (⟨gf, gb⟩, false)) := by
                  rcases hinv with ⟨h0, _⟩ | h1
                  · rw [h0] at hd; cases hd
                  · exact .inl h1
                clear IH hinv hd c8
                rcases fin with ⟨hd, hR⟩ | ⟨hd, hb, hR⟩
                · subst hd
                  rw [hR] at IH'
                  simp only [Bool.or_true, if_true] at IH'
                  refine SemW.go tyT_ok mixed ?_
                  conv => arg 6; whnf
                  refine Holds.mk (by first | (simp; done) | (simp; omega) | omega) ?_
                  refine SemW.cond rfl (fun c10 => ?_) (fun c10 => ?_)
                  · refine SemW.go tyT_ok mixed ?_
                    conv => arg 6; whnf
                    refine Holds.mk (by first | (simp; done) | (simp; omega) | omega) ?_
                    refine SemW.back (IH' gl) ?bT ?bL rfl rfl (by decide) rfl rfl
                    case bT => repeat' first | exact trivial | refine And.intro ?_ ?_ | (exact AvLe.sl (by omega) (Nat.le_refl _) (by first | omega | simp; omega)) | (first | exact AvLe.of (incI (by omega)) | exact AvLe.of (incU (by omega)) | exact AvLe.of (decI (by omega)) | exact AvLe.refl _ | exact AvLe.sl (by first | rfl | (simp; done) | omega) (by first | exact Nat.le_refl _ | (simp; done) | omega) (by first | exact Nat.le_refl _ | (simp; done) | (simp; omega) | omega))
                    case bL => repeat' first | exact trivial | refine And.intro ?_ ?_ | (exact ⟨_, rfl, BlkLe.arr (by omega) (fun j _ => rfl)⟩) | exact ⟨_, rfl, BlkLe.refl _⟩ | exact ⟨_, rfl, BlkLe.arr (by simp; done) (app1P rfl)⟩ | exact ⟨_, rfl, BlkLe.arr (by simp; done) (app1E rfl)⟩ | exact ⟨_, rfl, BlkLe.arr (by simp; done) (fun j _ => by simp [blt_zero]; done)⟩
                  · cases c10
                · subst hd
                  subst hb
                  rw [hR] at IH'
                  simp only [Bool.or_false, Bool.false_eq_true, if_false] at IH'
                  refine SemW.go tyT_ok mixed ?_
                  conv => arg 6; whnf
                  refine Holds.mk (by first | (simp; done) | (simp; omega) | omega) ?_
                  refine SemW.cond rfl (fun c10 => ?_) (fun c10 => ?_)
                  · cases c10
                  · refine SemW.go tyT_ok mixed ?_
                    conv => arg 6; whnf
                    refine Holds.mk (by first | (simp; done) | (simp; omega) | omega) ?_
                    refine SemW.back (IH' (gl + 1)) ?bT ?bL rfl rfl (by decide) rfl rfl
                    case bT => repeat' first | exact trivial | refine And.intro ?_ ?_ | (exact AvLe.refl _) | (first | exact AvLe.of (incI (by omega)) | exact AvLe.of (incU (by omega)) | exact AvLe.of (decI (by omega)) | exact AvLe.refl _ | exact AvLe.sl (by first | rfl | (simp; done) | omega) (by first | exact Nat.le_refl _ | (simp; done) | omega) (by first | exact Nat.le_refl _ | (simp; done) | (simp; omega) | omega))
                    case bL => repeat' first | exact trivial | refine And.intro ?_ ?_ | exact ⟨_, rfl, BlkLe.refl _⟩ | exact ⟨_, rfl, BlkLe.arr (by simp; done) (app1P rfl)⟩ | exact ⟨_, rfl, BlkLe.arr (by simp; done) (app1E rfl)⟩ | exact ⟨_, rfl, BlkLe.arr (by simp; done) (fun j _ => by simp [blt_zero]; done)⟩
            · have ha0 : at_ < 0 := by simpa using c7
              have fin : (done = true ∧ replacedF ⟨gf, gb⟩ (bk.getD i P0) kn = (⟨gf, b⟩, true)) ∨ (done = false ∧ b = gb ∧ replacedF ⟨gf, gb⟩ (bk.getD i P0) kn = (⟨gf, gb⟩, false)) := by
                rcases hinv with ⟨h0, h1, _⟩ | h1
                · exact .inr ⟨h0, h1, hneg ha0⟩
                · exact .inl h1
              clear IH hinv
              refine SemW.go tyT_ok mixed ?_
              conv => arg 6; whnf
              refine Holds.mk (by first | (simp; done) | (simp; omega) | omega) ?_
              refine SemW.condF rfl ?_
              rcases fin with ⟨hd, hR⟩ | ⟨hd, hb, hR⟩
              · subst hd
                rw [hR] at IH'
                simp only [Bool.or_true, if_true] at IH'
                refine SemW.go tyT_ok mixed ?_
                conv => arg 6; whnf
                refine Holds.mk (by first | (simp; done) | (simp; omega) | omega) ?_
                refine SemW.cond rfl (fun c10 => ?_) (fun c10 => ?_)
                · refine SemW.go tyT_ok mixed ?_
                  conv => arg 6; whnf
                  refine Holds.mk (by first | (simp; done) | (simp; omega) | omega) ?_
                  refine SemW.back (IH' gl) ?bT ?bL rfl rfl (by decide) rfl rfl
                  case bT => repeat' first | exact trivial | refine And.intro ?_ ?_ | (exact AvLe.sl (by omega) (Nat.le_refl _) (by first | omega | simp; omega)) | (first | exact AvLe.of (incI (by omega)) | exact AvLe.of (incU (by omega)) | exact AvLe.of (decI (by omega)) | exact AvLe.refl _ | exact AvLe.sl (by first | rfl | (simp; done) | omega) (by first | exact Nat.le_refl _ | (simp; done) | omega) (by first | exact Nat.le_refl _ | (simp; done) | (simp; omega) | omega))
                  case bL => repeat' first | exact trivial | refine And.intro ?_ ?_ | (exact ⟨_, rfl, BlkLe.arr (by omega) (fun j _ => rfl)⟩) | exact ⟨_, rfl, BlkLe.refl _⟩ | exact ⟨_, rfl, BlkLe.arr (by simp; done) (app1P rfl)⟩ | exact ⟨_, rfl, BlkLe.arr (by simp; done) (app1E rfl)⟩ | exact ⟨_, rfl, BlkLe.arr (by simp; done) (fun j _ => by simp [blt_zero]; done)⟩
                · cases c10
              · subst hd
                subst hb
                rw [hR] at IH'
                simp only [Bool.or_false, Bool.false_eq_true, if_false] at IH'
                refine SemW.go tyT_ok mixed ?_
                conv => arg 6; whnf
                refine Holds.mk (by first | (simp; done) | (simp; omega) | omega) ?_
                refine SemW.cond rfl (fun c10 => ?_) (fun c10 => ?_)
                · cases c10
                · refine SemW.go tyT_ok mixed ?_
                  conv => arg 6; whnf
                  refine Holds.mk (by first | (simp; done) | (simp; omega) | omega) ?_
                  refine SemW.back (IH' (gl + 1)) ?bT ?bL rfl rfl (by decide) rfl rfl
                  case bT => repeat' first | exact trivial | refine And.intro ?_ ?_ | (exact AvLe.refl _) | (first | exact AvLe.of (incI (by omega)) | exact AvLe.of (incU (by omega)) | exact AvLe.of (decI (by omega)) | exact AvLe.refl _ | exact AvLe.sl (by first | rfl | (simp; done) | omega) (by first | exact Nat.le_refl _ | (simp; done) | omega) (by first | exact Nat.le_refl _ | (simp; done) | (simp; omega) | omega))
                  case bL => repeat' first | exact trivial | refine And.intro ?_ ?_ | exact ⟨_, rfl, BlkLe.refl _⟩ | exact ⟨_, rfl, BlkLe.arr (by simp; done) (app1P rfl)⟩ | exact ⟨_, rfl, BlkLe.arr (by simp; done) (app1E rfl)⟩ | exact ⟨_, rfl, BlkLe.arr (by simp; done) (fun j _ => by simp [blt_zero]; done)⟩
          · have hkl : k = kn.length := by simp at c6; omega
            have fin : (done = true ∧ replacedF ⟨gf, gb⟩ (bk.getD i P0) kn = (⟨gf, b⟩, true)) ∨ (done = false ∧ b = gb ∧ replacedF ⟨gf, gb⟩ (bk.getD i P0) kn = (⟨gf, gb⟩, false)) := by
              rcases hinv with ⟨h0, h1, h2⟩ | h1
              · rw [hkl, List.drop_length] at h2
                exact .inr ⟨h0, h1, h2⟩
              · exact .inl h1
            clear IH hinv
            refine SemW.go tyT_ok mixed ?_
            conv => arg 6; whnf
            refine Holds.mk (by first | (simp; done) | (simp; omega) | omega) ?_
            refine SemW.go tyT_ok mixed ?_
            conv => arg 6; whnf
            refine Holds.mk (by first | (simp; done) | (simp; omega) | omega) ?_
            refine SemW.condF rfl ?_
            rcases fin with ⟨hd, hR⟩ | ⟨hd, hb, hR⟩
            · subst hd
              rw [hR] at IH'
              simp only [Bool.or_true, if_true] at IH'
              refine SemW.go tyT_ok mixed ?_
              conv => arg 6; whnf
              refine Holds.mk (by first | (simp; done) | (simp; omega) | omega) ?_
              refine SemW.cond rfl (fun c10 => ?_) (fun c10 => ?_)
              · refine SemW.go tyT_ok mixed ?_
                conv => arg 6; whnf
                refine Holds.mk (by first | (simp; done) | (simp; omega) | omega) ?_
                refine SemW.back (IH' gl) ?bT ?bL rfl rfl (by decide) rfl rfl
                case bT => repeat' first | exact trivial | refine And.intro ?_ ?_ | (exact AvLe.sl (by omega) (Nat.le_refl _) (by first | omega | simp; omega)) | (first | exact AvLe.of (incI (by omega)) | exact AvLe.of (incU (by omega)) | exact AvLe.of (decI (by omega)) | exact AvLe.refl _ | exact AvLe.sl (by first | rfl | (simp; done) | omega) (by first | exact Nat.le_refl _ | (simp; done) | omega) (by first | exact Nat.le_refl _ | (simp; done) | (simp; omega) | omega))
                case bL => repeat' first | exact trivial | refine And.intro ?_ ?_ | (exact ⟨_, rfl, BlkLe.arr (by omega) (fun j _ => rfl)⟩) | exact ⟨_, rfl, BlkLe.refl _⟩ | exact ⟨_, rfl, BlkLe.arr (by simp; done) (app1P rfl)⟩ | exact ⟨_, rfl, BlkLe.arr (by simp; done) (app1E rfl)⟩ | exact ⟨_, rfl, BlkLe.arr (by simp; done) (fun j _ => by simp [blt_zero]; done)⟩
              · cases c10
            · subst hd
              subst hb
              rw [hR] at IH'
              simp only [Bool.or_false, Bool.false_eq_true, if_false] at IH'
              refine SemW.go tyT_ok mixed ?_
              conv => arg 6; whnf
              refine Holds.mk (by first | (simp; done) | (simp; omega) | omega) ?_
              refine SemW.cond rfl (fun c10 => ?_) (fun c10 => ?_)
              · cases c10
              · refine SemW.go tyT_ok mixed ?_
                conv => arg 6; whnf
                refine Holds.mk (by first | (simp; done) | (simp; omega) | omega) ?_
                refine SemW.back (IH' (gl + 1)) ?bT ?bL rfl rfl (by decide) rfl rfl
                case bT => repeat' first | exact trivial | refine And.intro ?_ ?_ | (exact AvLe.refl _) | (first | exact AvLe.of (incI (by omega)) | exact AvLe.of (incU (by omega)) | exact AvLe.of (decI (by omega)) | exact AvLe.refl _ | exact AvLe.sl (by first | rfl | (simp; done) | omega) (by first | exact Nat.le_refl _ | (simp; done) | omega) (by first | exact Nat.le_refl _ | (simp; done) | (simp; omega) | omega))
                case bL => repeat' first | exact trivial | refine And.intro ?_ ?_ | exact ⟨_, rfl, BlkLe.refl _⟩ | exact ⟨_, rfl, BlkLe.arr (by simp; done) (app1P rfl)⟩ | exact ⟨_, rfl, BlkLe.arr (by simp; done) (app1E rfl)⟩ | exact ⟨_, rfl, BlkLe.arr (by simp; done) (fun j _ => by simp [blt_zero]; done)⟩
    · obtain rfl : i = bk.length := by dsimp only at c3; simp at c3; omega
      clear IH
      have hfi := rnS_first fi bk kn bad bk.length
      have hfo : rnS fi bk kn bad bk.length = bk.foldl (rn1 kn bad) (⟨fi, bk⟩, false, []) := by unfold rnS; rw [List.take_length]
      rw [← hfo] at hQ
      clear hfo
      generalize rnS fi bk kn bad bk.length = s at *
      obtain ⟨⟨gf, gb⟩, so, lf⟩ := s
      dsimp only at *
      subst hfi
      refine SemW.frzA 4 ?_
      conv => arg 6; whnf
      refine Holds.mk (by repeat' first | exact trivial | refine And.intro ?_ ?_ | exact rfl | exact Nat.le_refl _ | exact Nat.le_of_eq (Nat.zero_add _) | (simp [Blk.num, Blk.gen]; done) | (simp [Blk.num, Blk.gen]; omega)) ?_
      refine SemW.tellT [(15, sP lf)] ⟨by first | exact AvLe.refl _ | exact AvLe.vs rfl (fun i _ => by rw [Nat.zero_add]) | exact AvLe.vs (by simp) (fun i _ => by simp) | exact AvLe.nil _ _ _ _, trivial⟩ ?_
      refine SemW.go tyT_ok mixed ?_
      conv => arg 6; whnf
      refine Holds.mk (by first | (simp; done) | (simp; omega) | omega) ?_
      refine SemW.loopG (X := {x : Nat × Nat × Nat // x.1 ≤ lf.length ∧ (rn2S w gb so lf x.1).1.length ≤ x.2.2}) (fun x => [(14, .sl (.l 3) x.1.2.1 2 0 (rn2S w gb so lf x.1.1).1.length x.1.2.2), (16, abool (rn2S w gb so lf x.1.1).2), (22, aint x.1.1)]) (fun x => [(3, rowP (rn2S w gb so lf x.1.1).1 x.1.2.1)]) (fun x => lf.length - x.1.1) (⟨(0, 1, gb.length), Nat.zero_le _, Nat.le_refl _⟩) ?_
      conv => arg 13; whnf
      refine LoopC.mk ?sT ?sL (by decide) rfl rfl ?_
      case sT => repeat' first | exact trivial | refine And.intro ?_ ?_ | (first | exact AvLe.of (incI (by omega)) | exact AvLe.of (incU (by omega)) | exact AvLe.of (decI (by omega)) | exact AvLe.refl _ | exact AvLe.sl (by first | rfl | (simp; done) | omega) (by first | exact Nat.le_refl _ | (simp; done) | omega) (by first | exact Nat.le_refl _ | (simp; done) | (simp; omega) | omega))
      case sL => repeat' first | exact trivial | refine And.intro ?_ ?_ | exact ⟨_, rfl, BlkLe.refl _⟩ | exact ⟨_, rfl, BlkLe.arr (by simp; done) (app1P rfl)⟩ | exact ⟨_, rfl, BlkLe.arr (by simp; done) (app1E rfl)⟩ | exact ⟨_, rfl, BlkLe.arr (by simp; done) (fun j _ => by simp [blt_zero]; done)⟩
      rintro ⟨⟨i, gi, ci⟩, hi, hci⟩ IH
      dsimp only at hi hci IH ⊢
      have hl2 := rn2S_len w gb so lf i
      refine SemW.go tyT_ok mixed ?_
      conv => arg 6; whnf
      refine Holds.mk (by first | (simp; done) | (simp; omega) | omega) ?_
      refine SemW.cond rfl (fun d1 => ?_) (fun d1 => ?_)
      · have hil : i < lf.length := by simpa using d1
        have IH' := fun g' c' hc' => IH ⟨(i + 1, g', c'), hil, hc'⟩ (by show lf.length - (i + 1) < lf.length - i; omega)
        dsimp only at IH'
        rw [rn2S_succ hil] at IH'
        clear IH
        generalize rn2S w gb so lf i = s at *
        obtain ⟨b, sm⟩ := s
        dsimp only at *
        refine SemW.go tyT_ok mixed ?_
        conv => arg 6; whnf
        refine Holds.mk (by first | (simp; done) | (simp; omega) | omega) ?_
        refine SemW.loopG (X := {k : Nat // k ≤ b.length ∧ idxF b (· == lf.getD i P0) = idxG b (lf.getD i P0) k}) (fun x => [(23, aint x.1)]) (fun x => []) (fun x => b.length - x.1) (⟨0, Nat.zero_le _, (idxG_zero _ _).symm⟩) ?_
        conv => arg 13; whnf
        refine LoopC.mk ?sT ?sL (by decide) rfl rfl ?_
        case sT => repeat' first | exact trivial | refine And.intro ?_ ?_ | (first | exact AvLe.of (incI (by omega)) | exact AvLe.of (incU (by omega)) | exact AvLe.of (decI (by omega)) | exact AvLe.refl _ | exact AvLe.sl (by first | rfl | (simp; done) | omega) (by first | exact Nat.le_refl _ | (simp; done) | omega) (by first | exact Nat.le_refl _ | (simp; done) | (simp; omega) | omega))
        case sL => repeat' first | exact trivial | refine And.intro ?_ ?_ | exact ⟨_, rfl, BlkLe.refl _⟩ | exact ⟨_, rfl, BlkLe.arr (by simp; done) (app1P rfl)⟩ | exact ⟨_, rfl, BlkLe.arr (by simp; done) (app1E rfl)⟩ | exact ⟨_, rfl, BlkLe.arr (by simp; done) (fun j _ => by simp [blt_zero]; done)⟩
        rintro ⟨k, hk, hinv⟩ IH
        dsimp only at hk hinv IH ⊢
        refine SemW.go tyT_ok mixed ?_
        conv => arg 6; whnf
        refine Holds.mk (by first | (simp; done) | (simp; omega) | omega) ?_
        refine SemW.split (fun d2 => ?_) (fun d2 => ?_)
        · have hkl : k < b.length := by simpa using d2
          have hst := idxG_step (old := lf.getD i P0) hkl
          refine SemW.go tyT_ok mixed ?_
          conv => arg 6; whnf
          refine Holds.mk (by first | (simp; done) | (simp; omega) | omega) ?_
          refine SemW.cond rfl (fun d3 => ?_) (fun d3 => ?_)
          · have hw : (b.length : Int) > w := by simpa using d3
            refine SemW.go tyT_ok mixed ?_
            conv => arg 6; whnf
            refine Holds.mk (by first | (simp; done) | (simp; omega) | omega) ?_
            refine SemW.cond rfl (fun d4 => ?_) (fun d4 => ?_)
            · have d4' : (b.getD k P0 == lf.getD i P0) = true := by rw [Nat.zero_add] at d4; rw [← eqP]; exact d4
              rw [if_pos d4'] at hst
              have hr : rn2 w (b, sm) (lf.getD i P0) = (b.take k ++ b.drop (k + 1), true) := by
                unfold rn2
                rw [hinv, hst, if_pos ⟨hw, by omega⟩]
                simp
              rw [hr] at IH'
              clear IH hinv hst hr
              have ek : IntKind.i64.wrap ((k : Int) + 1) = ((k + 1 : Nat) : Int) := wrap_i64 (by omega) (by omega)
              refine SemW.go tyT_ok mixed ?_
              conv => arg 6; whnf
              refine Holds.mk ((by simp only [ek]; simp; omega)) ?_
              have hB : (b.take k ++ b.drop (k + 1)).length = k + (b.length - (k + 1)) := by simp; omega
              have hcut := cutP hkl
              generalize b.take k ++ b.drop (k + 1) = nb at *
              refine SemW.tellT [(14, ownP 2 nb 2)] ⟨AvLe.sl (by rw [ek, hB]; simp) (Nat.le_refl _) (by rw [ek, hB]; first | (simp; done) | (simp; omega)), trivial⟩ ?_
              refine SemW.tellB [(2, rowP nb 2)] ⟨⟨_, rfl, BlkLe.arr (by rw [ek, hB]; simp) (fun j hj => ?_)⟩, trivial⟩ ?_
              · rw [← hcut j hj]
                simp only [ek, Nat.zero_add, Int.toNat_natCast, Nat.sub_zero, blt_zero, cond_false]
              · refine SemW.gc ?_
                conv => arg 6; whnf
                refine Holds.mk trivial ?_
                refine SemW.swap 2 3 ?_
                refine SemW.back (IH' 2 nb.length (Nat.le_refl _)) ?bT ?bL rfl rfl (by decide) rfl rfl
                case bT => repeat' first | exact trivial | refine And.intro ?_ ?_ | (first | exact AvLe.of (incI (by omega)) | exact AvLe.of (incU (by omega)) | exact AvLe.of (decI (by omega)) | exact AvLe.refl _ | exact AvLe.sl (by first | rfl | (simp; done) | omega) (by first | exact Nat.le_refl _ | (simp; done) | omega) (by first | exact Nat.le_refl _ | (simp; done) | (simp; omega) | omega))
                case bL => repeat' first | exact trivial | refine And.intro ?_ ?_ | exact ⟨_, rfl, BlkLe.refl _⟩ | exact ⟨_, rfl, BlkLe.arr (by simp; done) (app1P rfl)⟩ | exact ⟨_, rfl, BlkLe.arr (by simp; done) (app1E rfl)⟩ | exact ⟨_, rfl, BlkLe.arr (by simp; done) (fun j _ => by simp [blt_zero]; done)⟩
            · have d4' : (b.getD k P0 == lf.getD i P0) = false := by rw [Nat.zero_add] at d4; rw [← eqP]; exact d4
              rw [if_neg (by rw [d4']; simp)] at hst
              refine SemW.go tyT_ok mixed ?_
              conv => arg 6; whnf
              refine Holds.mk (by first | (simp; done) | (simp; omega) | omega) ?_
              refine SemW.back (IH ⟨k + 1, hkl, hinv.trans hst⟩ (by show b.length - (k + 1) < b.length - k; omega)) ?bT ?bL rfl rfl (by decide) rfl rfl
              case bT => repeat' first | exact trivial | refine And.intro ?_ ?_ | (first | exact AvLe.of (incI (by omega)) | exact AvLe.of (incU (by omega)) | exact AvLe.of (decI (by omega)) | exact AvLe.refl _ | exact AvLe.sl (by first | rfl | (simp; done) | omega) (by first | exact Nat.le_refl _ | (simp; done) | omega) (by first | exact Nat.le_refl _ | (simp; done) | (simp; omega) | omega))
              case bL => repeat' first | exact trivial | refine And.intro ?_ ?_ | exact ⟨_, rfl, BlkLe.refl _⟩ | exact ⟨_, rfl, BlkLe.arr (by simp; done) (app1P rfl)⟩ | exact ⟨_, rfl, BlkLe.arr (by simp; done) (app1E rfl)⟩ | exact ⟨_, rfl, BlkLe.arr (by simp; done) (fun j _ => by simp [blt_zero]; done)⟩
          · have hw : ¬ (b.length : Int) > w := by simpa using d3
            have hr : rn2 w (b, sm) (lf.getD i P0) = (b, sm) := by
              unfold rn2
              rw [if_neg (fun h => hw h.1)]
            rw [hr] at IH'
            refine SemW.go tyT_ok mixed ?_
            conv => arg 6; whnf
            refine Holds.mk (by first | (simp; done) | (simp; omega) | omega) ?_
            refine SemW.back (IH' gi ci hci) ?bT ?bL rfl rfl (by decide) rfl rfl
            case bT => repeat' first | exact trivial | refine And.intro ?_ ?_ | (first | exact AvLe.of (incI (by omega)) | exact AvLe.of (incU (by omega)) | exact AvLe.of (decI (by omega)) | exact AvLe.refl _ | exact AvLe.sl (by first | rfl | (simp; done) | omega) (by first | exact Nat.le_refl _ | (simp; done) | omega) (by first | exact Nat.le_refl _ | (simp; done) | (simp; omega) | omega))
            case bL => repeat' first | exact trivial | refine And.intro ?_ ?_ | exact ⟨_, rfl, BlkLe.refl _⟩ | exact ⟨_, rfl, BlkLe.arr (by simp; done) (app1P rfl)⟩ | exact ⟨_, rfl, BlkLe.arr (by simp; done) (app1E rfl)⟩ | exact ⟨_, rfl, BlkLe.arr (by simp; done) (fun j _ => by simp [blt_zero]; done)⟩
        · obtain rfl : k = b.length := by simp at d2; omega
          rw [idxG_len] at hinv
          have hr : rn2 w (b, sm) (lf.getD i P0) = (b, sm) := by
            unfold rn2
            rw [hinv, if_neg (fun h => by have := h.2; omega)]
          rw [hr] at IH'
          refine SemW.go tyT_ok mixed ?_
          conv => arg 6; whnf
          refine Holds.mk (by first | (simp; done) | (simp; omega) | omega) ?_
          refine SemW.condF rfl ?_
          refine SemW.go tyT_ok mixed ?_
          conv => arg 6; whnf
          refine Holds.mk (by first | (simp; done) | (simp; omega) | omega) ?_
          refine SemW.back (IH' gi ci hci) ?bT ?bL rfl rfl (by decide) rfl rfl
          case bT => repeat' first | exact trivial | refine And.intro ?_ ?_ | (first | exact AvLe.of (incI (by omega)) | exact AvLe.of (incU (by omega)) | exact AvLe.of (decI (by omega)) | exact AvLe.refl _ | exact AvLe.sl (by first | rfl | (simp; done) | omega) (by first | exact Nat.le_refl _ | (simp; done) | omega) (by first | exact Nat.le_refl _ | (simp; done) | (simp; omega) | omega))
          case bL => repeat' first | exact trivial | refine And.intro ?_ ?_ | exact ⟨_, rfl, BlkLe.refl _⟩ | exact ⟨_, rfl, BlkLe.arr (by simp; done) (app1P rfl)⟩ | exact ⟨_, rfl, BlkLe.arr (by simp; done) (app1E rfl)⟩ | exact ⟨_, rfl, BlkLe.arr (by simp; done) (fun j _ => by simp [blt_zero]; done)⟩
      · obtain rfl : i = lf.length := by simp at d1; omega
        clear IH
        have hfo : rn2S w gb so lf lf.length = lf.foldl (rn2 w) (gb, so) := by unfold rn2S; rw [List.take_length]
        rw [← hfo] at hQ
        clear hfo
        generalize rn2S w gb so lf lf.length = s at *
        obtain ⟨b, sm⟩ := s
        dsimp only at *
        refine SemW.go tyT_ok mixed ?_
        conv => arg 6; whnf
        refine Holds.mk (by first | (simp; done) | (simp; omega) | omega) ?_
        refine SemW.cond rfl (fun d5 => ?_) (fun d5 => ?_)
        · have hs : sm = false := by rw [Bool.not_eq_true'] at d5; exact d5
          subst hs
          rw [if_neg (by simp)] at hQ
          refine SemW.go tyT_ok mixed ?_
          conv => arg 6; whnf
          refine Holds.mk (by first | (simp; done) | (simp; omega) | omega) ?_
          refine SemW.retD tyT_ok func29 rfl rfl hQ rfl ⟨⟨trivial, trivial, trivial⟩, trivial, trivial⟩ (AvLe.tup ⟨AvLe.agg ⟨AvLe.refl _, AvLe.nil _ _ _ _, trivial⟩, AvLe.refl _, trivial⟩)
        · have hs : sm = true := by rw [Bool.not_eq_false'] at d5; exact d5
          subst hs
          rw [if_pos rfl] at hQ
          refine SemW.go tyT_ok mixed ?_
          conv => arg 6; whnf
          refine Holds.mk (by first | (simp; done) | (simp; omega) | omega) ?_
          refine SemW.loopG (X := {x : Nat × Nat × Nat // x.1 ≤ kn.length ∧ (rn3S e b kn x.1).length ≤ x.2.2}) (fun x => [(14, .sl (.l 3) x.1.2.1 2 0 (rn3S e b kn x.1.1).length x.1.2.2), (24, aint x.1.1)]) (fun x => [(3, rowP (rn3S e b kn x.1.1) x.1.2.1)]) (fun x => kn.length - x.1.1) (⟨(0, gi, ci), Nat.zero_le _, hci⟩) ?_
          conv => arg 13; whnf
          refine LoopC.mk ?sT ?sL (by decide) rfl rfl ?_
          case sT => repeat' first | exact trivial | refine And.intro ?_ ?_ | (first | exact AvLe.of (incI (by omega)) | exact AvLe.of (incU (by omega)) | exact AvLe.of (decI (by omega)) | exact AvLe.refl _ | exact AvLe.sl (by first | rfl | (simp; done) | omega) (by first | exact Nat.le_refl _ | (simp; done) | omega) (by first | exact Nat.le_refl _ | (simp; done) | (simp; omega) | omega))
          case sL => repeat' first | exact trivial | refine And.intro ?_ ?_ | exact ⟨_, rfl, BlkLe.refl _⟩ | exact ⟨_, rfl, BlkLe.arr (by simp; done) (app1P rfl)⟩ | exact ⟨_, rfl, BlkLe.arr (by simp; done) (app1E rfl)⟩ | exact ⟨_, rfl, BlkLe.arr (by simp; done) (fun j _ => by simp [blt_zero]; done)⟩
          rintro ⟨⟨i, gj, cj⟩, hi, hcj⟩ IH
          dsimp only at hi hcj IH ⊢
          have hl3 := rn3S_len e b kn i
          refine SemW.go tyT_ok mixed ?_
          conv => arg 6; whnf
          refine Holds.mk (by first | (simp; done) | (simp; omega) | omega) ?_
          refine SemW.cond rfl (fun e1 => ?_) (fun e1 => ?_)
          · have hil : i < kn.length := by simpa using e1
            have IH' := fun g' c' hc' => IH ⟨(i + 1, g', c'), hil, hc'⟩ (by show kn.length - (i + 1) < kn.length - i; omega)
            dsimp only at IH'
            rw [rn3S_succ hil] at IH'
            clear IH
            generalize rn3S e b kn i = nb at *
            unfold rn3 at IH'
            refine SemW.go tyT_ok mixed ?_
            conv => arg 6; whnf
            refine Holds.mk (by first | (simp; done) | (simp; omega) | omega) ?_
            refine SemW.split (fun e2 => ?_) (fun e2 => ?_)
            · have he2 : (nb.length : Int) < e := by simpa using e2
              refine SemW.go tyT_ok mixed ?_
              conv => arg 6; whnf
              refine Holds.mk (by first | (simp; done) | (simp; omega) | omega) ?_
              refine SemW.split (fun e3 => ?_) (fun e3 => ?_)
              · have he3 : (nb.length : Int) < 5 := by simpa using e3
                refine SemW.go tyT_ok mixed ?_
                conv => arg 6; whnf
                refine Holds.mk (by first | (simp; done) | (simp; omega) | omega) ?_
                refine SemW.call0 rfl rfl func51 rfl rfl ?_
                refine SemC.view [sP nb, aint (kn.getD i P0).node, aint (-1)] ⟨AvLe.vs rfl (fun i _ => by rw [Nat.zero_add]), AvLe.refl _, AvLe.refl _, trivial⟩ ⟨⟨Nat.le_of_eq (Nat.zero_add _), rfl⟩, trivial, trivial, trivial⟩ ?_
                refine node_spec nb (kn.getD i P0).node (-1) _ _ (by omega) ⟨rfl, trivial, rfl, rfl, _, rfl, rfl, rfl, ?_⟩
                rw [nodeB_neg]
                rw [show decide ((nb.length : Int) < min e 5) = true from decide_eq_true (by omega), Bool.true_and] at IH'
                refine SemW.go tyT_ok mixed ?_
                conv => arg 6; whnf
                refine Holds.mk (by first | (simp; done) | (simp; omega) | omega) ?_
                refine SemW.cond rfl (fun e4 => ?_) (fun e4 => ?_)
                · rw [if_pos e4] at IH'
                  refine SemW.go tyT_ok mixed ?_
                  conv => arg 6; whnf
                  refine Holds.mk (by first | (simp; done) | (simp; omega) | omega) ?_
                  refine SemW.back (IH' (gj + 1) (nb.length + 1) (by simp)) ?bT ?bL rfl rfl (by decide) rfl rfl
                  case bT => repeat' first | exact trivial | refine And.intro ?_ ?_ | (exact AvLe.sl (by simp; done) (by simp; done) (by omega)) | (first | exact AvLe.of (incI (by omega)) | exact AvLe.of (incU (by omega)) | exact AvLe.of (decI (by omega)) | exact AvLe.refl _ | exact AvLe.sl (by first | rfl | (simp; done) | omega) (by first | exact Nat.le_refl _ | (simp; done) | omega) (by first | exact Nat.le_refl _ | (simp; done) | (simp; omega) | omega))
                  case bL => repeat' first | exact trivial | refine And.intro ?_ ?_ | exact ⟨_, rfl, BlkLe.refl _⟩ | exact ⟨_, rfl, BlkLe.arr (by simp; done) (app1P rfl)⟩ | exact ⟨_, rfl, BlkLe.arr (by simp; done) (app1E rfl)⟩ | exact ⟨_, rfl, BlkLe.arr (by simp; done) (fun j _ => by simp [blt_zero]; done)⟩
                · rw [if_neg (by rw [e4]; simp)] at IH'
                  refine SemW.go tyT_ok mixed ?_
                  conv => arg 6; whnf
                  refine Holds.mk (by first | (simp; done) | (simp; omega) | omega) ?_
                  refine SemW.back (IH' gj cj hcj) ?bT ?bL rfl rfl (by decide) rfl rfl
                  case bT => repeat' first | exact trivial | refine And.intro ?_ ?_ | (first | exact AvLe.of (incI (by omega)) | exact AvLe.of (incU (by omega)) | exact AvLe.of (decI (by omega)) | exact AvLe.refl _ | exact AvLe.sl (by first | rfl | (simp; done) | omega) (by first | exact Nat.le_refl _ | (simp; done) | omega) (by first | exact Nat.le_refl _ | (simp; done) | (simp; omega) | omega))
                  case bL => repeat' first | exact trivial | refine And.intro ?_ ?_ | exact ⟨_, rfl, BlkLe.refl _⟩ | exact ⟨_, rfl, BlkLe.arr (by simp; done) (app1P rfl)⟩ | exact ⟨_, rfl, BlkLe.arr (by simp; done) (app1E rfl)⟩ | exact ⟨_, rfl, BlkLe.arr (by simp; done) (fun j _ => by simp [blt_zero]; done)⟩
              · have he3 : ¬ (nb.length : Int) < 5 := by simpa using e3
                rw [show decide ((nb.length : Int) < min e 5) = false from decide_eq_false (by omega), Bool.false_and, if_neg (by simp)] at IH'
                refine SemW.go tyT_ok mixed ?_
                conv => arg 6; whnf
                refine Holds.mk (by first | (simp; done) | (simp; omega) | omega) ?_
                refine SemW.go tyT_ok mixed ?_
                conv => arg 6; whnf
                refine Holds.mk (by first | (simp; done) | (simp; omega) | omega) ?_
                refine SemW.condF rfl ?_
                refine SemW.go tyT_ok mixed ?_
                conv => arg 6; whnf
                refine Holds.mk (by first | (simp; done) | (simp; omega) | omega) ?_
                refine SemW.back (IH' gj cj hcj) ?bT ?bL rfl rfl (by decide) rfl rfl
                case bT => repeat' first | exact trivial | refine And.intro ?_ ?_ | (first | exact AvLe.of (incI (by omega)) | exact AvLe.of (incU (by omega)) | exact AvLe.of (decI (by omega)) | exact AvLe.refl _ | exact AvLe.sl (by first | rfl | (simp; done) | omega) (by first | exact Nat.le_refl _ | (simp; done) | omega) (by first | exact Nat.le_refl _ | (simp; done) | (simp; omega) | omega))
                case bL => repeat' first | exact trivial | refine And.intro ?_ ?_ | exact ⟨_, rfl, BlkLe.refl _⟩ | exact ⟨_, rfl, BlkLe.arr (by simp; done) (app1P rfl)⟩ | exact ⟨_, rfl, BlkLe.arr (by simp; done) (app1E rfl)⟩ | exact ⟨_, rfl, BlkLe.arr (by simp; done) (fun j _ => by simp [blt_zero]; done)⟩
            · have he2 : ¬ (nb.length : Int) < e := by simpa using e2
              rw [show decide ((nb.length : Int) < min e 5) = false from decide_eq_false (by omega), Bool.false_and, if_neg (by simp)] at IH'
              refine SemW.go tyT_ok mixed ?_
              conv => arg 6; whnf
              refine Holds.mk (by first | (simp; done) | (simp; omega) | omega) ?_
              refine SemW.go tyT_ok mixed ?_
              conv => arg 6; whnf
              refine Holds.mk (by first | (simp; done) | (simp; omega) | omega) ?_
              refine SemW.condF rfl ?_
              refine SemW.go tyT_ok mixed ?_
              conv => arg 6; whnf
              refine Holds.mk (by first | (simp; done) | (simp; omega) | omega) ?_
              refine SemW.back (IH' gj cj hcj) ?bT ?bL rfl rfl (by decide) rfl rfl
              case bT => repeat' first | exact trivial | refine And.intro ?_ ?_ | (first | exact AvLe.of (incI (by omega)) | exact AvLe.of (incU (by omega)) | exact AvLe.of (decI (by omega)) | exact AvLe.refl _ | exact AvLe.sl (by first | rfl | (simp; done) | omega) (by first | exact Nat.le_refl _ | (simp; done) | omega) (by first | exact Nat.le_refl _ | (simp; done) | (simp; omega) | omega))
              case bL => repeat' first | exact trivial | refine And.intro ?_ ?_ | exact ⟨_, rfl, BlkLe.refl _⟩ | exact ⟨_, rfl, BlkLe.arr (by simp; done) (app1P rfl)⟩ | exact ⟨_, rfl, BlkLe.arr (by simp; done) (app1E rfl)⟩ | exact ⟨_, rfl, BlkLe.arr (by simp; done) (fun j _ => by simp [blt_zero]; done)⟩
          · obtain rfl : i = kn.length := by simp at e1; omega
            clear IH
            have hfo : rn3S e b kn kn.length = kn.foldl (rn3 e) b := by unfold rn3S; rw [List.take_length]
            rw [← hfo] at hQ
            clear hfo
            generalize rn3S e b kn kn.length = nb at *
            refine SemW.go tyT_ok mixed ?_
            conv => arg 6; whnf
            refine Holds.mk (by first | (simp; done) | (simp; omega) | omega) ?_
            refine SemW.retD tyT_ok func29 rfl rfl hQ rfl ⟨⟨trivial, ⟨Nat.le_of_eq (Nat.zero_add _), rfl⟩, trivial⟩, trivial, trivial⟩ (AvLe.tup ⟨AvLe.agg ⟨AvLe.refl _, AvLe.vs rfl (fun i _ => by rw [Nat.zero_add]), trivial⟩, AvLe.refl _, trivial⟩)
end Go.Proofs.Try
set_option linter.unusedVariables false
set_option linter.unusedSimpArgs false
open Go Go.AM
namespace Go.AM
variable {α : Type}
abbrev rowE (ag : Bool) (c : Nat) (enc : α → AV) (d : α) (l : List α) (g : Nat) : Blk := .arr ag g c l.length (fun i => enc (l.getD i d))
abbrev ownE (k : Nat) (c : Nat) (l : List α) (g : Nat) : AV := .sl (.l k) g c 0 l.length l.length
theorem getD_app {d : α} {l m : List α} {j : Nat} (h : j < l.length) : (l ++ m).getD j d = l.getD j d := by
  simp only [List.getD_eq_getElem?_getD]
  rw [List.getElem?_append_left h]
theorem app1E {enc : α → AV} {d : α} {l : List α} {x : α} {z v : AV} (hv : v = enc x) : ∀ j, j < (l ++ [x]).length → (bif Nat.blt j l.length then enc (l.getD (0 + j) d) else fillE (fun _ => z) [(0, v)] (0 + (j - l.length))) = enc ((l ++ [x]).getD j d) := by
  intro j hj
  refine app1 (f := fun j => enc (l.getD j d)) (f' := fun j => enc ((l ++ [x]).getD j d)) (fun j hj => ?_) ?_ j (by simpa using hj)
  · rw [getD_app hj]
  · rw [hv]
    simp
theorem take_snoc {d : α} {l : List α} {i : Nat} (h : i < l.length) : l.take (i + 1) = l.take i ++ [l.getD i d] := by
  rw [List.take_add_one, List.getElem?_eq_getElem h]
  simp [h]
end Go.AM
set_option linter.unusedVariables false
set_option linter.unusedSimpArgs false
namespace Go.AM
variable {P : Program}
def delB (k : Nat) : Lh → Lh
  | [] => []
  | (q, b) :: L => bif Nat.beq q k then delB k L else (q, b) :: delB k L
theorem getB_delB (k : Nat) : ∀ (L : Lh) (q : Nat) (b : Blk), getB (delB k L) q = some b → q ≠ k ∧ getB L q = some b
  | [], _, _, h => by cases h
  | (p, c) :: L, q, b, h => by
    simp only [delB] at h
    cases hb : Nat.beq p k with
    | true =>
      rw [hb] at h
      obtain ⟨h1, h2⟩ := getB_delB k L q b h
      refine ⟨h1, ?_⟩
      have : Nat.beq p q = false := by
        cases hx : Nat.beq p q with
        | false => rfl
        | true => exact absurd ((Nat.eq_of_beq_eq_true hx).symm.trans (Nat.eq_of_beq_eq_true hb)) h1
      simp only [getB, this, cond_false]
      exact h2
    | false =>
      rw [hb] at h
      simp only [cond_false, getB] at h ⊢
      cases hx : Nat.beq p q with
      | true =>
        rw [hx] at h
        refine ⟨fun e => ?_, h⟩
        have := Nat.eq_of_beq_eq_true hx
        subst this
        subst e
        simp at hb
      | false =>
        rw [hx] at h
        exact getB_delB k L q b h
theorem Den.drop {E E' : Env} {ι : Io} {h : Hp} {L : Lh} {w : World} (d : Den E ι (hp h L) w) {k : Nat} {b : Blk} (hb : getB L k = some b) (hle : E.le E') (hw : E'.w = w) (hk : ∀ i, E'.keep i ↔ E.keep i ∨ place ι (.l k) = some i) : Den E' ι (hp h (delB k L)) w := by
  have orig : ∀ i c, hp h (delB k L) i = some c → hp h L i = some c ∧ i ≠ .l k := by
    intro i c hc
    cases i with
    | l q => obtain ⟨h1, h2⟩ := getB_delB k L q c hc; exact ⟨h2, fun e => by cases e; exact h1 rfl⟩
    | o i => exact ⟨hc, by simp⟩
    | n j => simp [hp] at hc
  constructor
  · intro i hi
    rcases (hk i).1 hi with h1 | h1
    · exact ⟨by rw [hw], by rw [hw]; exact d.keep_lt h1⟩
    · exact ⟨by rw [hw], by rw [hw]; exact d.lt (id := .l k) hb h1⟩
  · rw [hw]
  · rw [hw]
  · rw [hw]
  · intro i c hc
    exact (d.ok i c (orig i c hc).1).mono hle (Io.le.refl ι) rfl (fun _ _ => rfl)
  · intro i i' c c' q g1 g2 hne p1 p2
    exact d.apart i i' c c' q (orig i c g1).1 (orig i' c' g2).1 hne p1 p2
  · intro i c q g1 p1 hq
    obtain ⟨g, hne⟩ := orig i c g1
    rcases (hk q).1 hq with h1 | h1
    · exact d.own i c q g p1 h1
    · exact d.apart i (.l k) c b q g hb hne p1 h1
theorem OpRun.frz {ops : Array Oper} {i : Nat} {o : Oper} {T : Tm} {h : Hp} {L : Lh} {fr : List Nat} {R : AV → Hp → Lh → List Nat → Prop}
    (hr : OpRun P ops i o T h L fr fun v h1 L1 fr1 => ∃ k g c off len cp ag n f, v = .sl (.l k) g c off len cp ∧ getB L1 k = some (.arr ag g c n f) ∧ off + len ≤ n ∧ R (.vs ag c len (fun i => f (off + i))) h1 (delB k L1) fr1) : OpRun P ops i o T h L fr R := by
  intro E ι a w b cs is rest q5 q6 q7 q8
  obtain ⟨r, w', E', ι', v, h', L', fr', s1, s2, s3, s4, s5, s6, s7, s8, k, g, c, off, len, cp, ag, n, f, rfl, hb, hn, hR⟩ := hr E ι a w b cs is rest q5 q6 q7 q8
  obtain ⟨E2, hle, hw, hfr, hkeep⟩ := s5.frz (k := k) (b := .arr ag g c n f) hb rfl
  have hrel := (s6.mono hle (Io.le.refl ι')).frz k _ hfr (by
    show AV.frzC k n g (.sl (.l k) g c off len cp)
    simp only [AV.frzC, Nat.beq_refl]
    exact ⟨hn, trivial⟩)
  have hv : AV.frz k (.arr ag g c n f) (.sl (.l k) g c off len cp) = .vs ag c len (fun i => f (off + i)) := by
    simp only [AV.frz, Nat.beq_refl]
  rw [hv] at hrel
  exact ⟨r, w', E2, ι', _, h', _, fr', s1, s2.trans hle, s3, s4, s5.drop hb hle hw hkeep, hrel, s7, s8, hR⟩
def frzvK {α : Type} (v : AV) (L : Lh) (s : α) (k : AV → Lh → Prop → α) : α := match v with
  | .sl id g c off len _ => match id with
    | .l q => getBK L q s fun b => match b with
      | .obj _ => s
      | .arr ag g' c' n f => match Nat.beq c c' with
        | true => forceL (delB q L) fun L' => k (.vs ag c len (fun i => f (off + i))) L' (off + len ≤ n ∧ g' = g)
        | false => s
    | _ => s
  | _ => s
section
variable {fid : FuncId} {fn : Func} {Q : AV → Hp → List Blk → Prop} {h : Hp}
def loudF {α : Type} (fz : List Nat) (ty : TypeId → TI) (ops : Array Oper) (W : Wm) (T0 : Tm) (L : Lh) (fr : List Nat) (i : Nat) (s : α) (k : AV → Lh → List Nat → Prop → α) : α := match memN fz i with
  | false => loudK ty ops W T0 L fr i s k
  | true => loudK ty ops W T0 L fr i s fun v L' fr' c => frzvK v L' s fun v' L'' c' => k v' L'' fr' (c' ∧ c)
theorem loudF_sound {α : Type} (fz : List Nat) {ty : TypeId → TI} (hty : TyOk P ty) (ops : Array Oper) (W : Wm) (T0 : Tm) (L : Lh) (fr : List Nat) (i : Nat) (s : α) (k : AV → Lh → List Nat → Prop → α) : loudF fz ty ops W T0 L fr i s k = s ∨ ∃ v L' fr' C, loudF fz ty ops W T0 L fr i s k = k v L' fr' C ∧
    (C → ∃ o, ops[i]? = some o ∧ OpRun P ops i o (selT (ownT ops W T0 i) (looks ops o)) h L fr fun v1 h1 L1 fr1 => v1 = v ∧ h1 = h ∧ L1 = L' ∧ fr1 = fr') := by
  unfold loudF
  split
  · exact loudK_sound hty ops W T0 L fr i s k
  · rcases loudK_sound (P := P) (h := h) hty ops W T0 L fr i s (fun v L' fr' c => frzvK v L' s fun v' L'' c' => k v' L'' fr' (c' ∧ c)) with e | ⟨v, L', fr', C, e, hf⟩
    · exact .inl e
    · rw [e]
      unfold frzvK
      split
      · split
        · rw [getBK_eq]
          split
          · rename_i b hb
            split
            · exact .inl rfl
            · rename_i ag g' c' n f
              split
              · rename_i hc
                rw [forceL_eq]
                refine .inr ⟨_, _, _, _, rfl, fun ⟨⟨hn, hg⟩, hC⟩ => ?_⟩
                obtain ⟨o, ho, hrun⟩ := hf hC
                refine ⟨o, ho, OpRun.frz (hrun.mono fun v1 h1 L1 fr1 ⟨e1, e2, e3, e4⟩ => ?_)⟩
                subst e1 e2 e3 e4
                have ec := Nat.eq_of_beq_eq_true hc
                subst ec
                subst hg
                exact ⟨_, _, _, _, _, _, _, _, _, rfl, hb, hn, rfl, rfl, rfl, rfl⟩
              · exact .inl rfl
          · exact .inl rfl
        · exact .inl rfl
      · exact .inl rfl
/-- a region whose order is drawn: as far as it goes by itself -/
def runDF (fz : List Nat) (ty : TypeId → TI) (ops : Array Oper) (T0 : Tm) : Nat → Wm → List Nat → List Nat → Lh → List Nat → Prop → DC
  | 0, W, K, D, L, fr, C => ⟨W, K, D, L, fr, C⟩
  | n + 1, W, K, D, L, fr, C => match qpass ty ops T0 L D (List.range ops.size) W K C with
    | ⟨W, K, C, rest⟩ => match rest with
      | _ :: _ => ⟨W, K, D, L, fr, C⟩
      | [] => match allB ops K D with
        | true => ⟨W, K, D, L, fr, C⟩
        | false => match nextL ops K D (List.range ops.size) with
          | [] => ⟨W, K, D, L, fr, C⟩
          | j :: js => match js with
            | _ :: _ => ⟨W, K, D, L, fr, C⟩
            | [] => match covB ops K D [j] with
              | false => ⟨W, K, D, L, fr, C⟩
              | true => loudF fz ty ops W T0 L fr j ⟨W, K, D, L, fr, C⟩ fun v L' fr' c => consK ops j v W fun W' => forceN (keepK (preds ops j) K) fun K' => forceN (doneK (preds ops j) K D) fun D' =>
                reK ty ops W' T0 L' ⟨W, K, D, L, fr, C⟩ (fun c2 => runDF fz ty ops T0 n W' K' (j :: D') L' fr' (c2 ∧ c ∧ C)) K' True
theorem runDF_sound (fz : List Nat) {ty : TypeId → TI} (hty : TyOk P ty) {ops : Array Oper} {k : List Item} {T0 : Tm} : ∀ (n : Nat) (W : Wm) (K D : List Nat) (L : Lh) (fr : List Nat) (C : Prop),
    (runDF fz ty ops T0 n W K D L fr C).C ∧ SemDr P fid fn Q ops k (runDF fz ty ops T0 n W K D L fr C).W (runDF fz ty ops T0 n W K D L fr C).K (runDF fz ty ops T0 n W K D L fr C).D T0 h (runDF fz ty ops T0 n W K D L fr C).L (runDF fz ty ops T0 n W K D L fr C).fr → C ∧ (statB ops = true → (∀ i v, (i, v) ∈ W → i ∈ K ++ D) → SemDr P fid fn Q ops k W K D T0 h L fr) := by
  intro n
  induction n with
  | zero => intro W K D L fr C hh; exact ⟨hh.1, fun _ _ => hh.2⟩
  | succ n ih =>
    intro W0 K0 D L fr C0 hh
    unfold runDF at hh
    refine qpass_sound hty (List.range ops.size) W0 K0 C0 ?_
    split at hh
    rename_i W K C rest heq
    rw [heq]
    split at hh
    · exact ⟨hh.1, fun _ _ => hh.2⟩
    · split at hh
      · exact ⟨hh.1, fun _ _ => hh.2⟩
      · split at hh
        · exact ⟨hh.1, fun _ _ => hh.2⟩
        · rename_i j js _
          split at hh
          · exact ⟨hh.1, fun _ _ => hh.2⟩
          · split at hh
            · exact ⟨hh.1, fun _ _ => hh.2⟩
            · rename_i hcov
              rcases loudF_sound fz (P := P) (h := h) hty ops W T0 L fr j (⟨W, K, D, L, fr, C⟩ : DC) (fun v L' fr' c => consK ops j v W fun W' => forceN (keepK (preds ops j) K) fun K' => forceN (doneK (preds ops j) K D) fun D' =>
                reK ty ops W' T0 L' ⟨W, K, D, L, fr, C⟩ (fun c2 => runDF fz ty ops T0 n W' K' (j :: D') L' fr' (c2 ∧ c ∧ C)) K' True) with e | ⟨v, L', fr', c, e, hf⟩
              · rw [e] at hh
                exact ⟨hh.1, fun _ _ => hh.2⟩
              · rw [e, consK_eq, forceN_eq, forceN_eq] at hh
                rcases reK_sound (P := P) hty ops (consW ops j v W) T0 L' (⟨W, K, D, L, fr, C⟩ : DC) (fun c2 => runDF fz ty ops T0 n (consW ops j v W) (keepK (preds ops j) K) (j :: doneK (preds ops j) K D) L' fr' (c2 ∧ c ∧ C)) (keepK (preds ops j) K) True with e | ⟨c2, e, hre⟩
                · rw [e] at hh
                  exact ⟨hh.1, fun _ _ => hh.2⟩
                · rw [e] at hh
                  obtain ⟨⟨k1, k2, k3⟩, k4⟩ := ih _ _ _ _ _ _ hh
                  obtain ⟨_, hre⟩ := hre k1
                  obtain ⟨o, ho, hrun⟩ := hf k2
                  refine ⟨k3, fun hs hk => SemDr.runs [j] hcov fun i hi => ?_⟩
                  have : i = j := by simpa using hi
                  subst this
                  refine ⟨o, ho, hrun.mono fun v1 h1 L1 fr1 ⟨e1, e2, e3, e4⟩ => ?_⟩
                  subst e1 e2 e3 e4
                  refine ⟨fun q hq hb _ _ => hre q hq hb _, k4 hs fun q u hq => ?_⟩
                  have hmem : q = i ∨ q ∈ K ++ D := by
                    unfold consW at hq
                    split at hq
                    · rcases List.mem_cons.1 hq with e | e
                      · cases e; exact .inl rfl
                      · exact .inr (hk q u e)
                    · exact .inr (hk q u hq)
                  simp only [List.mem_append, List.mem_cons, mem_keepK, mem_doneK] at hmem ⊢
                  rcases hmem with rfl | h1 | h1
                  · exact .inr (.inl rfl)
                  · cases hx : memN (preds ops i) q with
                    | true => exact .inr (.inr (.inl ⟨h1, rfl⟩))
                    | false => exact .inl ⟨h1, rfl⟩
                  · exact .inr (.inr (.inr h1))
theorem SemDr.goF (fz : List Nat) {ty : TypeId → TI} (hty : TyOk P ty) {ops : Array Oper} {k : List Item} {W : Wm} {K D : List Nat} {T0 : Tm} {L : Lh} {fr : List Nat} (hr : HoldsDP P fid fn Q ops k T0 h K D (runDF fz ty ops T0 20 W K D L fr True)) : SemDr P fid fn Q ops k W K D T0 h L fr := by
  intro hs hsz f1 f2 f3
  exact (runDF_sound fz hty 20 W K D L fr True hr).2 hs f3 hs hsz f1 f2 f3
end
end Go.AM
set_option linter.unusedVariables false
set_option linter.unusedSimpArgs false
open Go Go.AM
namespace Go.Proofs.Try
set_option maxRecDepth 100000
set_option maxHeartbeats 8000000
theorem copyFrags_spec (l : List Fr) (h : Hp) (Q : AV → Hp → List Blk → Prop) (hl : l.length < 2^40) (hb : ∀ f ∈ l, f.books.length < 2^40) (hQ : Q (sF l) h []) : SemC Try.prog 24 [sF l] h Q := by
  refine SemC.enter func24 rfl (Nat.le_of_ble_eq_true rfl) fresh fresh_nodup ?_
  refine SemW.entT rfl ?_
  refine SemW.go tyT_ok mixed ?_
  conv => arg 6; whnf
  refine Holds.mk (by first | (simp; done) | (simp; omega) | omega) ?_
  refine SemW.nilRow (t := 3) true 2 (fun i => encF (([] : List Fr).getD i F0)) rfl ?_
  refine SemW.loopG (X := {x : Nat × Nat // x.1 ≤ l.length}) (fun x => [(3, ownE 0 2 (l.take x.1.1) x.1.2), (4, aint x.1.1)]) (fun x => [(0, rowE true 2 encF F0 (l.take x.1.1) x.1.2)]) (fun x => l.length - x.1.1) (⟨(0, 0), Nat.zero_le _⟩) ?_
  conv => arg 13; whnf
  refine LoopC.mk ?sT ?sL (by decide) rfl rfl ?_
  case sT => repeat' first | exact trivial | refine And.intro ?_ ?_ | (first | exact AvLe.of (incI (by omega)) | exact AvLe.of (incU (by omega)) | exact AvLe.of (decI (by omega)) | exact AvLe.refl _ | exact AvLe.sl (by first | rfl | (simp; done) | omega) (by first | exact Nat.le_refl _ | (simp; done) | omega) (by first | exact Nat.le_refl _ | (simp; done) | (simp; omega) | omega))
  case sL => repeat' first | exact trivial | refine And.intro ?_ ?_ | exact ⟨_, rfl, BlkLe.refl _⟩ | exact ⟨_, rfl, BlkLe.arr (by simp; done) (app1P rfl)⟩ | exact ⟨_, rfl, BlkLe.arr (by simp; done) (app1E rfl)⟩ | exact ⟨_, rfl, BlkLe.arr (by simp; done) (fun j _ => by simp [blt_zero]; done)⟩
  rintro ⟨⟨i, g⟩, hi⟩ IH
  dsimp only at hi IH ⊢
  refine SemW.go tyT_ok mixed ?_
  conv => arg 6; whnf
  refine Holds.mk (by first | (simp; done) | (simp; omega) | omega) ?_
  refine SemW.cond rfl (fun c1 => ?_) (fun c1 => ?_)
  · have hil : i < l.length := by simpa using c1
    have hm : l.getD i F0 ∈ l := by simp [hil]
    have hlb := hb _ hm
    have IH' := IH ⟨(i + 1, g + 1), hil⟩ (by show l.length - (i + 1) < l.length - i; omega)
    dsimp only at IH'
    rw [take_snoc (d := F0) hil] at IH'
    have hlt : (l.take i).length ≤ i := by simp; omega
    generalize l.take i = t at *
    clear IH
    simp [hil] at hlb
    refine SemW.go tyT_ok mixed ?_
    conv => arg 6; whnf
    refine Holds.mk (by first | (simp; done) | (simp; omega) | omega) ?_
    refine SemW.draw mixed rfl rfl ?_
    refine SemDr.goF [12] tyT_ok ?_
    conv => arg 11; whnf
    refine HoldsDP.mk rfl ((by simp [hil]; omega)) ?_
    refine SemDr.end rfl ?_
    refine SemW.go tyT_ok mixed ?_
    conv => arg 6; whnf
    refine Holds.mk (by first | (simp; done) | (simp; omega) | omega) ?_
    refine SemW.back (IH') ?bT ?bL rfl rfl (by decide) rfl rfl
    case bT => repeat' first | exact trivial | refine And.intro ?_ ?_ | (fail) | (first | exact AvLe.of (incI (by omega)) | exact AvLe.of (incU (by omega)) | exact AvLe.of (decI (by omega)) | exact AvLe.refl _ | exact AvLe.sl (by first | rfl | (simp; done) | omega) (by first | exact Nat.le_refl _ | (simp; done) | omega) (by first | exact Nat.le_refl _ | (simp; done) | (simp; omega) | omega))
    case bL => repeat' first | exact trivial | refine And.intro ?_ ?_ | (exact ⟨_, rfl, BlkLe.arr (by simp; done) (app1E (by show AV.agg [_, AV.vs true 2 _ _] = AV.agg [_, AV.vs true 2 _ _]; simp only [blt_zero, cond_false, Nat.zero_add, Nat.sub_zero]; rfl))⟩) | exact ⟨_, rfl, BlkLe.refl _⟩ | exact ⟨_, rfl, BlkLe.arr (by simp; done) (app1P rfl)⟩ | exact ⟨_, rfl, BlkLe.arr (by simp; done) (app1E rfl)⟩ | exact ⟨_, rfl, BlkLe.arr (by simp; done) (fun j _ => by simp [blt_zero]; done)⟩
  · obtain rfl : i = l.length := by simp at c1; omega
    rw [List.take_length] at *
    refine SemW.go tyT_ok mixed ?_
    conv => arg 6; whnf
    refine Holds.mk (by first | (simp; done) | (simp; omega) | omega) ?_
    refine SemW.retD tyT_ok func24 rfl rfl hQ rfl ⟨Nat.le_of_eq (Nat.zero_add _), rfl⟩ (AvLe.vs rfl (fun i _ => by rw [Nat.zero_add]))
end Go.Proofs.Try
set_option linter.unusedVariables false
set_option linter.unusedSimpArgs false
open Go Go.AM
namespace Go.Proofs.Try
set_option maxRecDepth 100000
set_option maxHeartbeats 8000000
theorem longB_rows {l : List Fr} {w : Int} {rows : List (List Pl)} (h : longB l w rows = false) : (∀ r ∈ rows, r.length ≤ 60) ∧ ∀ f ∈ l, f.books.length ≤ 30 := by
  unfold longB longF at h
  simp only [Bool.or_eq_false_iff] at h
  refine ⟨fun r hr => ?_, fun f hf => ?_⟩
  · obtain ⟨i, hi, rfl⟩ := List.getElem_of_mem hr
    have := List.any_eq_false.1 h.2.2 i (by simpa using hi)
    simp [hi] at this
    omega
  · obtain ⟨i, hi, rfl⟩ := List.getElem_of_mem hf
    have := List.any_eq_false.1 h.1.2 i (by simpa using hi)
    simp [hi] at this
    omega
theorem renewF_len (fi : Int) (bk : List Pl) (w e : Int) (bad known : List Pl) : (renewF ⟨fi, bk⟩ w e bad known).1.books.length ≤ bk.length + known.length := by
  unfold renewF
  dsimp only
  split
  · have h1 := rn3S_len e (((bk.foldl (rn1 (keptL known (badB bad)) bad) (⟨fi, bk⟩, false, [])).2.2.foldl (rn2 w) ((bk.foldl (rn1 (keptL known (badB bad)) bad) (⟨fi, bk⟩, false, [])).1.books, (bk.foldl (rn1 (keptL known (badB bad)) bad) (⟨fi, bk⟩, false, [])).2.1)).1) (keptL known (badB bad)) (keptL known (badB bad)).length
    unfold rn3S at h1
    rw [List.take_length] at h1
    have h2 := rn2_len w (bk.foldl (rn1 (keptL known (badB bad)) bad) (⟨fi, bk⟩, false, [])).2.2 ((bk.foldl (rn1 (keptL known (badB bad)) bad) (⟨fi, bk⟩, false, [])).1.books, (bk.foldl (rn1 (keptL known (badB bad)) bad) (⟨fi, bk⟩, false, [])).2.1)
    have h3 := (rn1_len (keptL known (badB bad)) bad bk (⟨fi, bk⟩, false, [])).1
    have h4 : (keptL known (badB bad)).length ≤ known.length := List.length_filter_le _ _
    dsimp only at h1 h2 h3 ⊢
    omega
  · simp
theorem renews_spec (fi : Int) (bk : List Pl) (w e : Int) (bad known : List Pl) (h : Hp) (Q : AV → Hp → List Blk → Prop) (hQ : Q (abool true) h []) : SemC Try.prog 8 [encF ⟨fi, bk⟩, aint w, aint e, sP bad, sP known] h Q := by
  refine SemC.enter func8 rfl (Nat.le_of_ble_eq_true rfl) fresh fresh_nodup ?_
  refine SemW.entT rfl ?_
  refine SemW.go tyT_ok mixed ?_
  conv => arg 6; whnf
  refine Holds.mk (by first | (simp; done) | (simp; omega) | omega) ?_
  refine SemW.call0 rfl rfl func10 rfl rfl ?_
  refine SemC.view [sF [⟨fi, bk⟩], aint w, sR [bad, known]] ⟨AvLe.vs rfl (fun i hi => by have e : i = 0 := (by omega); subst e; rfl), AvLe.refl _, AvLe.vs rfl (fun i hi => by rcases i with _ | _ | i <;> first | rfl | omega), trivial⟩ ⟨⟨by decide, rfl⟩, trivial, ⟨by decide, rfl⟩, trivial⟩ ?_
  refine long_spec [⟨fi, bk⟩] w [bad, known] _ _ (by simp) (by simp) ⟨rfl, trivial, rfl, rfl, _, rfl, rfl, rfl, ?_⟩
  refine SemW.go tyT_ok mixed ?_
  conv => arg 6; whnf
  refine Holds.mk (by first | (simp; done) | (simp; omega) | omega) ?_
  refine SemW.cond rfl (fun s1 => ?_) (fun s1 => ?_)
  · refine SemW.go tyT_ok mixed ?_
    conv => arg 6; whnf
    refine Holds.mk (by first | (simp; done) | (simp; omega) | omega) ?_
    refine SemW.call0 rfl rfl func12 rfl rfl ?_
    refine awake_spec _ _ ⟨rfl, rfl, _, rfl, rfl, rfl, ?_⟩
    refine SemW.go tyT_ok mixed ?_
    conv => arg 6; whnf
    refine Holds.mk (by first | (simp; done) | (simp; omega) | omega) ?_
    refine SemW.ret0 tyT_ok func8 rfl rfl rfl ?_
    exact hQ
  · obtain ⟨hr, hb⟩ := longB_rows s1
    have h1 := hr bad (by simp)
    have h2 := hr known (by simp)
    have h3 := hb ⟨fi, bk⟩ (by simp)
    dsimp only at h3
    refine SemW.go tyT_ok mixed ?_
    conv => arg 6; whnf
    refine Holds.mk (by first | (simp; done) | (simp; omega) | omega) ?_
    refine SemW.frzA 3 ?_
    conv => arg 6; whnf
    refine Holds.mk (by repeat' first | exact trivial | refine And.intro ?_ ?_ | exact rfl | exact Nat.le_refl _ | exact Nat.le_of_eq (Nat.zero_add _) | (simp [Blk.num, Blk.gen]; done) | (simp [Blk.num, Blk.gen]; omega)) ?_
    refine SemW.tellT [(25, sF [⟨fi, bk⟩])] ⟨AvLe.vs rfl (fun i hi => by have e : i = 0 := (by omega); subst e; rfl), trivial⟩ ?_
    refine SemW.call0 rfl rfl func24 rfl rfl ?_
    refine copyFrags_spec [⟨fi, bk⟩] _ _ (by simp) (by simp; omega) ⟨rfl, rfl, _, rfl, rfl, rfl, ?_⟩
    refine SemW.go tyT_ok mixed ?_
    conv => arg 6; whnf
    refine Holds.mk (by first | (simp; done) | (simp; omega) | omega) ?_
    obtain ⟨R, hR⟩ : ∃ R, renewF ⟨fi, bk⟩ w e bad known = R := ⟨_, rfl⟩
    have hRl := renewF_len fi bk w e bad known
    rw [hR] at hRl
    refine SemW.call0 rfl rfl func28 rfl rfl ?_
    refine renew_spec fi bk w e bad known _ _ (by omega) (by omega) (by omega) ⟨rfl, rfl, _, rfl, rfl, rfl, ?_⟩
    rw [hR]
    refine SemW.go tyT_ok mixed ?_
    conv => arg 6; whnf
    refine Holds.mk (by first | (simp; done) | (simp; omega) | omega) ?_
    refine SemW.call0 rfl rfl func29 rfl rfl ?_
    refine rrenew_spec fi bk w e bad known _ _ (by omega) (by omega) (by omega) ⟨rfl, rfl, _, rfl, rfl, rfl, ?_⟩
    rw [hR]
    obtain ⟨⟨rf, rb⟩, ok⟩ := R
    dsimp only at hRl ⊢
    refine SemW.go tyT_ok mixed ?_
    conv => arg 6; whnf
    refine Holds.mk (by first | (simp; done) | (simp; omega) | omega) ?_
    refine SemW.split (fun s2 => ?_) (fun s2 => ?_)
    · refine SemW.go tyT_ok mixed ?_
      conv => arg 6; whnf
      refine Holds.mk (by first | (simp; done) | (simp; omega) | omega) ?_
      refine SemW.call0 rfl rfl func27 rfl rfl ?_
      refine SemC.view [sF [⟨rf, rb⟩], sF [⟨rf, rb⟩]] ⟨AvLe.vs rfl (fun i hi => by have e : i = 0 := (by omega); subst e; rfl), AvLe.vs rfl (fun i hi => by have e : i = 0 := (by omega); subst e; rfl), trivial⟩ ⟨⟨by decide, rfl⟩, ⟨by decide, rfl⟩, trivial⟩ ?_
      refine sameFrags_spec [⟨rf, rb⟩] [⟨rf, rb⟩] _ _ (by simp) (by simp; omega) ⟨rfl, trivial, rfl, rfl, _, rfl, rfl, rfl, ?_⟩
      refine SemW.go tyT_ok mixed ?_
      conv => arg 6; whnf
      refine Holds.mk (by first | (simp; done) | (simp; omega) | omega) ?_
      refine SemW.split (fun s3 => ?_) (fun s3 => ?_)
      · refine SemW.go tyT_ok mixed ?_
        conv => arg 6; whnf
        refine Holds.mk (by first | (simp; done) | (simp; omega) | omega) ?_
        refine SemW.call0 rfl rfl func27 rfl rfl ?_
        refine SemC.view [sF [⟨fi, bk⟩], sF [⟨fi, bk⟩]] ⟨AvLe.refl _, AvLe.vs rfl (fun i hi => by have e : i = 0 := (by omega); subst e; rfl), trivial⟩ ⟨trivial, ⟨by decide, rfl⟩, trivial⟩ ?_
        refine sameFrags_spec [⟨fi, bk⟩] [⟨fi, bk⟩] _ _ (by simp) (by simp; omega) ⟨rfl, trivial, rfl, rfl, _, rfl, rfl, rfl, ?_⟩
        refine SemW.go tyT_ok mixed ?_
        conv => arg 6; whnf
        refine Holds.mk (by first | (simp; done) | (simp; omega) | omega) ?_
        refine SemW.split (fun s4 => ?_) (fun s4 => ?_)
        · refine SemW.go tyT_ok mixed ?_
          conv => arg 6; whnf
          refine Holds.mk (by first | (simp; done) | (simp; omega) | omega) ?_
          refine SemW.call0 rfl rfl func12 rfl rfl ?_
          refine awake_spec _ _ ⟨rfl, rfl, _, rfl, rfl, rfl, ?_⟩
          refine SemW.go tyT_ok mixed ?_
          conv => arg 6; whnf
          refine Holds.mk (by first | (simp; done) | (simp; omega) | omega) ?_
          refine SemW.ret0 tyT_ok func8 rfl rfl rfl ?_
          exact hQ
        · simp at s4
      · simp at s3
    · simp at s2
end Go.Proofs.Try
set_option linter.unusedVariables false
set_option linter.unusedSimpArgs false
open Go Go.AM
namespace Go.Proofs.Try
def sumN (f : Nat → Nat) : Nat → Nat
  | 0 => 0
  | n + 1 => sumN f n + f n
def ind (b : List Pl) (a i k j : Nat) : Nat := if (b.getD ((a + i + k) % b.length) P0).node = (j : Int) then 1 else 0
def cnt (b : List Pl) (a w i k j : Nat) : Nat := sumN (fun i' => sumN (fun k' => ind b a i' k' j) w) i + sumN (fun k' => ind b a i k' j) k
end Go.Proofs.Try
set_option linter.unusedVariables false
set_option linter.unusedSimpArgs false
open Go Go.AM
namespace Go.Proofs.Try
def cellsP (p : Pl) : List AV := [.val (.int .i64 p.node), .val (.int .u64 p.serial)]
def okP (p : Pl) : Prop := (-9223372036854775808 ≤ p.node ∧ p.node ≤ 9223372036854775807) ∧ 0 ≤ p.serial ∧ p.serial < 18446744073709551616
theorem wf_i64 {x : Int} (h : (Lit.int .i64 x).wf = true) : -9223372036854775808 ≤ x ∧ x ≤ 9223372036854775807 := by
  simp [Lit.wf, IntKind.min, IntKind.max, IntKind.signed, IntKind.bits] at h
  omega
theorem wf_u64 {x : Int} (h : (Lit.int .u64 x).wf = true) : 0 ≤ x ∧ x < 18446744073709551616 := by
  simp [Lit.wf, IntKind.min, IntKind.max, IntKind.signed, IntKind.bits] at h
  omega
theorem cellsOfP : 2 = Try.prog.cellsOf 32 := by kernel_rfl
theorem cellsOfF : 2 = Try.prog.cellsOf 25 := by kernel_rfl
theorem opP : OpA Try.prog 32 cellsP okP :=
  (opA_struct Try.underlying32 (n := 2) cellsOfP.symm (opF_cons (n1 := 1) (n2 := 1) rfl (opA_int Try.underlying3 (by kernel_rfl)) (by kernel_rfl) (opF_one rfl (opA_int Try.underlying22 (by kernel_rfl)) (by kernel_rfl)) rfl)).iso
    (fun x => ⟨x.1, x.2⟩) (fun _ => rfl) (fun _ => cellsOfP) (fun _ h => ⟨wf_i64 h.1, wf_u64 h.2⟩)
def okLP (l : List Pl) : Prop := l.length * 16 ≤ 140737488351232 ∧ ∀ p ∈ l, okP p
theorem opLP : OpA Try.prog 23 (fun l : List Pl => [sP l]) okLP :=
  (opA_slice (ag := true) Try.underlying23 (by kernel_rfl) opP (Nat.le_of_ble_eq_true (by kernel_rfl)) encP ⟨0, 0⟩ (fun _ => ⟨rfl, rfl⟩)).mono fun _ h => h
def cellsF (f : Fr) : List AV := [.val (.int .u64 f.first), sP f.books]
def okF (f : Fr) : Prop := (0 ≤ f.first ∧ f.first < 18446744073709551616) ∧ okLP f.books
theorem opF : OpA Try.prog 25 cellsF okF :=
  (opA_struct Try.underlying25 (n := 2) cellsOfF.symm (opF_cons (n1 := 1) (n2 := 1) rfl (opA_int Try.underlying22 (by kernel_rfl)) (by kernel_rfl) (opF_one rfl opLP (by kernel_rfl)) rfl)).iso
    (fun x => ⟨x.1, x.2⟩) (fun _ => rfl) (fun _ => cellsOfF) (fun _ h => ⟨wf_u64 h.1, h.2⟩)
end Go.Proofs.Try
