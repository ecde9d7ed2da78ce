/- Part 9 of the proof of the row StripeRenews: written for this claim by the session and by a program of its own. -/
import Derived.Test.YtipjnfljkknmgaaCStripeRenewsp3
set_option linter.unusedVariables false
set_option linter.unusedSimpArgs false
open Go Go.AM
namespace Go.Proofs.Try
set_option maxRecDepth 100000
set_option maxHeartbeats 4000000
theorem cloneOwn_spec (l : List Pl) (h : Hp) (Q : AV → Hp → List Blk → Prop) (hl : l.length < 2^40) (hQ : ∀ g cp, l.length ≤ cp → Q (.sl (.n 0) g 2 0 l.length cp) h [.arr true g 2 l.length (fun i => encP (l.getD i ⟨0, 0⟩))]) : SemC Try.prog 44 [sP l] h Q := by
  refine SemC.enter func44 rfl (Nat.le_of_ble_eq_true rfl) fresh fresh_nodup ?_
  refine SemW.go tyT_ok mixed ?_
  conv => arg 6; whnf
  refine Holds.mk (by first | (simp; done) | (simp; omega) | omega) ?_
  refine SemW.eqNil tyT_ok rfl rfl fun b hb => ?_
  refine SemW.go tyT_ok mixed ?_
  conv => arg 6; whnf
  refine Holds.mk (by first | (simp; done) | (simp; omega) | omega) ?_
  refine SemW.cond rfl (fun c1 => ?_) (fun c1 => ?_)
  · have hl0 : l = [] := by simpa using hb c1
    subst hl0
    refine SemW.go tyT_ok mixed ?_
    conv => arg 6; whnf
    refine Holds.mk (by first | (simp; done) | (simp; omega) | omega) ?_
    refine SemW.nilRow (t := 2) true 2 (fun i => encP (([] : List Pl).getD i ⟨0, 0⟩)) rfl ?_
    refine SemW.ret tyT_ok func44 [0] rfl rfl rfl (by decide) rfl rfl ?_
    exact hQ 0 0 (Nat.le_refl _)
  · refine SemW.go tyT_ok mixed ?_
    conv => arg 6; whnf
    refine Holds.mk ((by simp; omega)) ?_
    refine SemW.weak (T' := [(2, .sl (.l 0) 1 2 0 l.length l.length)]) (L' := [(0, .arr true 1 2 l.length (fun i => encP (l.getD i ⟨0, 0⟩)))]) ⟨AvLe.sl (by omega) (Nat.le_refl _) (by omega), trivial⟩ ⟨⟨_, rfl, BlkLe.arr (by omega) (fun j _ => by simp [blt_zero])⟩, trivial⟩ ?_
    refine SemW.ret tyT_ok func44 [0] rfl rfl rfl (by decide) rfl rfl ?_
    exact hQ 1 l.length (Nat.le_refl _)
/-- is a node another one's but at k? -/
def otherB (b : List Pl) (k : Int) (x : Pl) (n : Nat) : Bool := (List.range n).any fun i => (!((i : Int) == k)) && ((b.getD i P0).node == x.node)
def swapF (f : Fr) (old x : Pl) : Fr × Bool :=
  if otherB f.books (idxF f.books (· == old)) x f.books.length then (F0, false) else if idxF f.books (· == old) < 0 then (F0, false) else (⟨f.first, f.books.set (idxF f.books (· == old)).toNat x⟩, true)
theorem swap_spec (fi : Int) (bk : List Pl) (old x : Pl) (h : Hp) (Q : AV → Hp → List Blk → Prop) (hl : bk.length < 2^40) (hQ : Q (.tup [encF (swapF ⟨fi, bk⟩ old x).1, abool (swapF ⟨fi, bk⟩ old x).2]) h []) : SemC Try.prog 25 [encF ⟨fi, bk⟩, encP old, encP x] h Q := by
  refine SemC.enter func25 rfl (Nat.le_of_ble_eq_true rfl) fresh fresh_nodup ?_
  refine SemW.go tyT_ok mixed ?_
  conv => arg 6; whnf
  refine Holds.mk (by first | (simp; done) | (simp; omega) | omega) ?_
  refine SemW.call0 rfl rfl func43 rfl rfl ?_
  refine index_spec bk old _ _ (by omega) ⟨rfl, rfl, _, rfl, rfl, rfl, ?_⟩
  have hk : idxF bk (· == old) < bk.length ∧ -1 ≤ idxF bk (· == old) := by
    unfold idxF
    split <;> omega
  unfold swapF at hQ
  dsimp only at hQ
  generalize idxF bk (· == old) = k at *
  refine SemW.go tyT_ok mixed ?_
  conv => arg 6; whnf
  refine Holds.mk (by first | (simp; done) | (simp; omega) | omega) ?_
  refine SemW.loop (X := {i : Nat // i ≤ bk.length ∧ otherB bk k x i = false}) (fun i => [(3, .ptr (.l 0) 0), (5, .ptr (.l 2) 0), (6, .ptr (.l 3) 0), (7, abool false), (8, aint k), (16, sP bk), (17, aint bk.length), (18, aint i.1)]) (fun _ => [(3, .obj [.val (.int .u64 0), nilS]), (2, .obj [.val (.int .i64 x.node), .val (.int .u64 x.serial)]), (0, .obj [.val (.int .u64 fi), sP bk])]) (fun _ => [1, 4, 5, 6, 7]) (fun i => bk.length - i.1) ⟨0, Nat.zero_le _, rfl⟩
    (SemW.cut ⟨rfl, rfl, rfl, rfl, rfl, rfl, rfl, rfl, trivial⟩ ⟨rfl, rfl, rfl, trivial⟩ (by decide) rfl rfl) (fun ⟨i, hi, ha⟩ IH => ?_)
  dsimp only at hi ha IH ⊢
  have step := fun (hf : ((!((i : Int) == k)) && ((bk.getD i P0).node == x.node)) = false) (hil : i < bk.length) => IH ⟨i + 1, hil, any_succ ha hf⟩ (by show bk.length - (i + 1) < bk.length - i; omega)
  refine SemW.go tyT_ok mixed ?_
  conv => arg 6; whnf
  refine Holds.mk (by first | (simp; done) | (simp; omega) | omega) ?_
  refine SemW.cond rfl (fun c1 => ?_) (fun c1 => ?_)
  · have hil : i < bk.length := by simpa using c1
    refine SemW.go tyT_ok mixed ?_
    conv => arg 6; whnf
    refine Holds.mk ((by simp; omega)) ?_
    refine SemW.split (fun c2 => ?_) (fun c2 => ?_)
    · have c2' : (!((i : Int) == k)) = true := c2
      refine SemW.go tyT_ok mixed ?_
      conv => arg 6; whnf
      refine Holds.mk (by first | (simp; done) | (simp; omega) | omega) ?_
      refine SemW.cond rfl (fun c3 => ?_) (fun c3 => ?_)
      · have hT : otherB bk k x bk.length = true := any_true hil (by rw [c2', Bool.true_and]; exact c3)
        rw [hT, if_pos rfl] at hQ
        refine SemW.go tyT_ok mixed ?_
        conv => arg 6; whnf
        refine Holds.mk (by first | (simp; done) | (simp; omega) | omega) ?_
        refine SemW.weak (T' := [(6, .ptr (.l 3) 0), (7, abool false)]) (L' := [(3, .obj [.val (.int .u64 0), sP []])]) ⟨AvLe.refl _, AvLe.refl _, trivial⟩ ⟨⟨_, rfl, BlkLe.obj ⟨AvLe.refl _, AvLe.nil _ _ _ _, trivial⟩⟩, trivial⟩ ?_
        refine SemW.ret0 tyT_ok func25 rfl rfl rfl ?_
        exact hQ
      · refine SemW.go tyT_ok mixed ?_
        conv => arg 6; whnf
        refine Holds.mk (by first | (simp; done) | (simp; omega) | omega) ?_
        refine SemW.cut ?_ ?_ (by decide) rfl rfl (step (by rw [c2', Bool.true_and]; exact c3) hil)
        · exact ⟨rfl, rfl, rfl, rfl, rfl, rfl, rfl, incI (by omega), trivial⟩
        · exact ⟨rfl, rfl, rfl, trivial⟩
    · have c2' : (!((i : Int) == k)) = false := c2
      refine SemW.go tyT_ok mixed ?_
      conv => arg 6; whnf
      refine Holds.mk (by first | (simp; done) | (simp; omega) | omega) ?_
      refine SemW.condF rfl ?_
      refine SemW.go tyT_ok mixed ?_
      conv => arg 6; whnf
      refine Holds.mk (by first | (simp; done) | (simp; omega) | omega) ?_
      refine SemW.cut ?_ ?_ (by decide) rfl rfl (step (by rw [c2']; rfl) hil)
      · exact ⟨rfl, rfl, rfl, rfl, rfl, rfl, rfl, incI (by omega), trivial⟩
      · exact ⟨rfl, rfl, rfl, trivial⟩
  · obtain rfl : i = bk.length := by simp at c1; omega
    rw [ha, if_neg (by simp)] at hQ
    refine SemW.go tyT_ok mixed ?_
    conv => arg 6; whnf
    refine Holds.mk (by first | (simp; done) | (simp; omega) | omega) ?_
    refine SemW.cond rfl (fun c4 => ?_) (fun c4 => ?_)
    · rw [if_pos (by simpa using c4)] at hQ
      refine SemW.go tyT_ok mixed ?_
      conv => arg 6; whnf
      refine Holds.mk (by first | (simp; done) | (simp; omega) | omega) ?_
      refine SemW.weak (T' := [(6, .ptr (.l 3) 0), (7, abool false)]) (L' := [(3, .obj [.val (.int .u64 0), sP []])]) ⟨AvLe.refl _, AvLe.refl _, trivial⟩ ⟨⟨_, rfl, BlkLe.obj ⟨AvLe.refl _, AvLe.nil _ _ _ _, trivial⟩⟩, trivial⟩ ?_
      refine SemW.ret0 tyT_ok func25 rfl rfl rfl ?_
      exact hQ
    · have hk0 : ¬ k < 0 := by simpa using c4
      rw [if_neg hk0] at hQ
      refine SemW.go tyT_ok mixed ?_
      conv => arg 6; whnf
      refine Holds.mk (by first | (simp; done) | (simp; omega) | omega) ?_
      refine SemW.call rfl rfl func44 rfl rfl ?_
      refine cloneOwn_spec bk _ _ hl fun g cp hcp => ⟨h, _, rfl, Nat.le_of_ble_eq_true rfl, ?_⟩
      refine SemW.go tyT_ok mixed ?_
      conv => arg 6; whnf
      refine Holds.mk ((by simp; omega)) ?_
      obtain ⟨kn, rfl⟩ : ∃ m : Nat, k = m := ⟨k.toNat, by omega⟩
      refine SemW.frzW (T' := [(6, .ptr (.l 3) 0), (7, abool true)]) (L' := [(3, .obj [.val (.int .u64 fi), .vs true 2 bk.length _])]) 1 rfl rfl ⟨AvLe.refl _, trivial, AvLe.refl _, trivial, trivial⟩ ⟨rfl, ⟨rfl, trivial, ⟨Nat.le_of_eq (Nat.zero_add _), rfl⟩, trivial⟩, trivial⟩ ?_
      refine SemW.weak (T' := [(6, .ptr (.l 3) 0), (7, abool true)]) (L' := [(3, .obj [.val (.int .u64 fi), sP (bk.set kn x)])]) ⟨AvLe.refl _, AvLe.refl _, trivial⟩ ⟨⟨_, rfl, BlkLe.obj ⟨AvLe.refl _, AvLe.sP (by simp) (fun j hj => ?_), trivial⟩⟩, trivial⟩ ?_
      · simp only [Nat.zero_add, Int.toNat_natCast]
        cases hb : Nat.beq j kn with
        | true =>
          have e := Nat.eq_of_beq_eq_true hb
          subst e
          have : (bk.set j x).getD j ⟨0, 0⟩ = x := by simp [hj]
          rw [this]
          rfl
        | false =>
          have e : kn ≠ j := fun e => by subst e; simp at hb
          have : (bk.set kn x).getD j ⟨0, 0⟩ = bk.getD j ⟨0, 0⟩ := by simp [List.getElem?_set_ne e]
          rw [this]
          rfl
      · rw [Int.toNat_natCast] at hQ
        refine SemW.ret0 tyT_ok func25 rfl rfl rfl ?_
        exact hQ
def replacedF (f : Fr) (old : Pl) : List Pl → Fr × Bool
  | [] => (f, false)
  | x :: l => if (swapF f old x).2 then ((swapF f old x).1, true) else replacedF f old l
theorem replacedF_drop {f : Fr} {old : Pl} {l : List Pl} {i : Nat} (h : i < l.length) : replacedF f old (l.drop i) = if (swapF f old (l.getD i P0)).2 then ((swapF f old (l.getD i P0)).1, true) else replacedF f old (l.drop (i + 1)) := by
  rw [List.drop_eq_getElem_cons h, replacedF]
  simp [h]
theorem replaced_spec (fi : Int) (bk : List Pl) (old : Pl) (l : List Pl) (h : Hp) (Q : AV → Hp → List Blk → Prop) (hb : bk.length < 2^40) (hl : l.length < 2^62) (hQ : Q (.tup [encF (replacedF ⟨fi, bk⟩ old l).1, abool (replacedF ⟨fi, bk⟩ old l).2]) h []) : SemC Try.prog 48 [encF ⟨fi, bk⟩, encP old, sP l] h Q := by
  refine SemC.enter func48 rfl (Nat.le_of_ble_eq_true rfl) fresh fresh_nodup ?_
  refine SemW.go tyT_ok mixed ?_
  conv => arg 6; whnf
  refine Holds.mk (by first | (simp; done) | (simp; omega) | omega) ?_
  refine SemW.loop (X := {i : Nat // i ≤ l.length ∧ replacedF ⟨fi, bk⟩ old l = replacedF ⟨fi, bk⟩ old (l.drop i)}) (fun i => [(3, .ptr (.l 0) 0), (4, .ptr (.l 1) 0), (6, .ptr (.l 2) 0), (7, abool false), (12, sP l), (13, aint l.length), (14, aint i.1)]) (fun _ => [(2, .obj [.val (.int .u64 0), nilS]), (1, .obj [.val (.int .i64 old.node), .val (.int .u64 old.serial)]), (0, .obj [.val (.int .u64 fi), sP bk])]) (fun _ => fresh3) (fun i => l.length - i.1) ⟨0, Nat.zero_le _, rfl⟩
    (SemW.cut ⟨rfl, rfl, rfl, rfl, rfl, rfl, rfl, trivial⟩ ⟨rfl, rfl, rfl, trivial⟩ fresh3_nodup rfl rfl) (fun ⟨i, hi, ha⟩ IH => ?_)
  dsimp only at hi ha IH ⊢
  refine SemW.go tyT_ok mixed ?_
  conv => arg 6; whnf
  refine Holds.mk (by first | (simp; done) | (simp; omega) | omega) ?_
  refine SemW.cond rfl (fun c1 => ?_) (fun c1 => ?_)
  · have hil : i < l.length := by simpa using c1
    have hd := replacedF_drop (f := ⟨fi, bk⟩) (old := old) hil
    rw [← ha] at hd
    refine SemW.go tyT_ok mixed ?_
    conv => arg 6; whnf
    refine Holds.mk ((by simp; omega)) ?_
    refine SemW.call0 rfl rfl func25 rfl rfl ?_
    refine swap_spec fi bk old (l.getD i P0) _ _ hb ⟨rfl, rfl, _, rfl, rfl, rfl, ?_⟩
    generalize swapF ⟨fi, bk⟩ old (l.getD i P0) = r at *
    obtain ⟨⟨rf, rb⟩, ok⟩ := r
    dsimp only at *
    refine SemW.go tyT_ok mixed ?_
    conv => arg 6; whnf
    refine Holds.mk (by first | (simp; done) | (simp; omega) | omega) ?_
    refine SemW.cond rfl (fun c2 => ?_) (fun c2 => ?_)
    · subst c2
      rw [if_pos rfl] at hd
      rw [hd] at hQ
      refine SemW.go tyT_ok mixed ?_
      conv => arg 6; whnf
      refine Holds.mk (by first | (simp; done) | (simp; omega) | omega) ?_
      refine SemW.ret0 tyT_ok func48 rfl rfl rfl ?_
      exact hQ
    · subst c2
      rw [if_neg (by simp)] at hd
      have IH' := IH ⟨i + 1, hil, hd⟩ (by show l.length - (i + 1) < l.length - i; omega)
      refine SemW.go tyT_ok mixed ?_
      conv => arg 6; whnf
      refine Holds.mk (by first | (simp; done) | (simp; omega) | omega) ?_
      refine SemW.cut ?_ ?_ fresh3_nodup rfl rfl IH'
      · exact ⟨rfl, rfl, rfl, rfl, rfl, rfl, incI (by omega), trivial⟩
      · exact ⟨rfl, rfl, rfl, trivial⟩
  · obtain rfl : i = l.length := by simp at c1; omega
    rw [List.drop_length] at ha
    rw [ha] at hQ
    refine SemW.go tyT_ok mixed ?_
    conv => arg 6; whnf
    refine Holds.mk (by first | (simp; done) | (simp; omega) | omega) ?_
    refine SemW.ret0 tyT_ok func48 rfl rfl rfl ?_
    exact hQ
end Go.Proofs.Try
set_option linter.unusedVariables false
set_option linter.unusedSimpArgs false
open Go Go.AM
namespace Go.Proofs.Try
set_option maxRecDepth 100000
set_option maxHeartbeats 4000000
theorem fresh1_ge : ∀ n ∈ fresh1, 1 ≤ n := by decide
theorem deleteFunc_spec (l : List Pl) (gn cp : Nat) (cf : Nat) (fn : Func) (caps : List AV) (is : Pl → Bool) (h : Hp) (Q : AV → List Blk → Prop) (hl : l.length < 2^40) (hcp : l.length ≤ cp) (hcaps : CapsOk caps) (hf : Try.prog.funcs[cf]? = some fn) (hn : (fn.name == "runtime.NumGoroutine") = false) (hb : fn.body.isSome = true)
    (hc : ∀ p ∈ l, ∀ h Q, Q (abool (is p)) h [] → SemC Try.prog cf ([encP p] ++ caps) h Q) (hQ : ∀ cp, (keptL l is).length ≤ cp → Q (.sl (.n 0) gn 2 0 (keptL l is).length cp) [.arr true gn 2 (keptL l is).length (fun i => encP ((keptL l is).getD i ⟨0, 0⟩))]) :
    SemCM Try.prog 45 [.sl (.n 0) gn 2 0 l.length cp, .fn cf caps] [.arr true gn 2 l.length (fun i => encP (l.getD i ⟨0, 0⟩))] h Q := by
  refine SemCM.enter func45 rfl (Nat.le_of_ble_eq_true rfl) fresh1 fresh1_nodup fresh1_ge ?_
  have e : renL ent [.sl (.n 0) gn 2 0 l.length cp, .fn cf caps] = [.sl (.l 0) gn 2 0 l.length cp, .fn cf caps] := by simp [renL, AV.ren, hcaps.ren, ent]
  rw [e]
  refine SemW.go tyT_ok mixed ?_
  conv => arg 6; whnf
  refine Holds.mk (by first | (simp; done) | (simp; omega) | omega) ?_
  refine SemW.call0 rfl rfl func56 rfl rfl ?_
  refine SemC.view [sP l, .fn cf caps] ⟨AvLe.sP rfl (fun i _ => by rw [Nat.zero_add]), AvLe.of (by simp [AV.view, hcaps.view]), trivial⟩ ⟨⟨Nat.le_of_eq (Nat.zero_add _), rfl⟩, hcaps.ok _, trivial⟩ ?_
  refine indexFunc_spec l cf fn caps is _ _ (by omega) (hcaps.ren .o) hf hn hb hc ⟨rfl, trivial, rfl, rfl, _, rfl, rfl, rfl, ?_⟩
  refine SemW.go tyT_ok mixed ?_
  conv => arg 6; whnf
  refine Holds.mk (by first | (simp; done) | (simp; omega) | omega) ?_
  refine SemW.cond rfl (fun c1 => ?_) (fun c1 => ?_)
  · have hnone : keptL l is = l := by
      refine keptL_all fun p hp => ?_
      have h1 : idxF l is = -1 := by simpa using c1
      have h2 := idxF_any l is
      rw [h1] at h2
      have h3 : l.any is = false := by rw [← h2]; rfl
      rw [List.any_eq_false] at h3
      simpa using h3 p hp
    rw [hnone] at hQ
    refine SemW.go tyT_ok mixed ?_
    conv => arg 6; whnf
    refine Holds.mk (by first | (simp; done) | (simp; omega) | omega) ?_
    refine SemW.ret tyT_ok func45 [0] rfl rfl rfl (by decide) rfl rfl ?_
    exact ⟨rfl, hQ cp hcp⟩
  · have hi0 : l.findIdx is < l.length := by
      refine Nat.lt_of_not_le fun hge => ?_
      have : idxF l is = -1 := by rw [idxF, if_neg (by omega)]
      rw [this] at c1
      simp at c1
    have hidx : idxF l is = ((l.findIdx is : Nat) : Int) := by rw [idxF, if_pos hi0]
    rw [hidx]
    have hbefore : ∀ q (hq : q < l.length), q < l.findIdx is → is l[q] = false := fun q hq hlt => List.not_of_lt_findIdx hlt
    have hat : is l[l.findIdx is] = true := List.findIdx_getElem (w := hi0)
    generalize l.findIdx is = i0 at *
    have hk0 : keptL (l.take (i0 + 1)) is = l.take i0 := by
      rw [keptL_take hi0, hat, if_pos rfl]
      refine keptL_all fun p hp => ?_
      obtain ⟨q, hq, rfl⟩ := List.getElem_of_mem hp
      rw [List.getElem_take]
      exact hbefore q (by simp at hq; omega) (by simp at hq; omega)
    refine SemW.go tyT_ok mixed ?_
    conv => arg 6; whnf
    refine Holds.mk (by first | (simp; done) | (simp; omega) | omega) ?_
    refine SemW.loop (X := {x : List Pl × Nat // x.1.length = l.length ∧ x.2 ≤ l.length ∧ (∀ q, q < (keptL (l.take x.2) is).length → x.1.getD q P0 = (keptL (l.take x.2) is).getD q P0) ∧ ∀ q, x.2 ≤ q → x.1.getD q P0 = l.getD q P0}) (fun x => [(0, .sl (.l 0) gn 2 0 l.length cp), (1, .fn cf caps), (5, aint (((keptL (l.take x.1.2) is).length : Nat) : Int)), (6, aint x.1.2)]) (fun x => [(0, .arr true gn 2 l.length (fun i => encP (x.1.1.getD i ⟨0, 0⟩)))]) (fun _ => fresh1) (fun x => l.length - x.1.2)
      ⟨(l, i0 + 1), rfl, hi0, fun q hq => by rw [hk0] at hq ⊢; have h1 : q < i0 := (by simp at hq; omega); simp [List.getElem?_take, h1], fun _ _ => rfl⟩
      (SemW.cutW ⟨AvLe.refl _, AvLe.refl _, AvLe.of ?_, AvLe.of (incI (by omega)), trivial⟩ ⟨⟨_, rfl, BlkLe.refl _⟩, trivial⟩ fresh1_nodup (by simp only [avoidT, AV.avoid, hcaps.avoid]; rfl) rfl) (fun ⟨⟨cur, j⟩, hcl, hj, hk, hr⟩ IH => ?_)
    · show _ = aint (((keptL (l.take (i0 + 1)) is).length : Nat) : Int)
      rw [hk0, List.length_take, Nat.min_eq_left (by omega)]
      rfl
    dsimp only at hcl hj hk hr IH ⊢
    have hkl := keptL_le l is j
    refine SemW.go tyT_ok mixed ?_
    conv => arg 6; whnf
    refine Holds.mk (by first | (simp; done) | (simp; omega) | omega) ?_
    refine SemW.cond rfl (fun c2 => ?_) (fun c2 => ?_)
    · have hjl : j < l.length := by simpa using c2
      have hg : cur.getD (0 + ((j : Int)).toNat) ⟨0, 0⟩ = l[j] := by rw [Nat.zero_add, Int.toNat_natCast, hr j (Nat.le_refl _)]; simp [hjl]
      have htk := keptL_take (is := is) hjl
      refine SemW.go tyT_ok mixed ?_
      conv => arg 6; whnf
      refine Holds.mk ((by simp; omega)) ?_
      refine SemW.call0 rfl rfl hf hn hb ?_
      have hcall := hc l[j] (List.getElem_mem hjl)
      rw [← hg] at hcall
      refine hcall _ _ ⟨rfl, rfl, _, rfl, rfl, rfl, ?_⟩
      rw [hg]
      refine SemW.go tyT_ok mixed ?_
      conv => arg 6; whnf
      refine Holds.mk (by first | (simp; done) | (simp; omega) | omega) ?_
      refine SemW.cond rfl (fun c3 => ?_) (fun c3 => ?_)
      · have c3' : is l[j] = false := by simpa using c3
        rw [c3', if_neg (by simp)] at htk
        have IH' := IH ⟨(cur.set (keptL (l.take j) is).length l[j], j + 1), by simp [hcl], hjl, fun q hq => ?_, fun q hq => ?_⟩ (by show l.length - (j + 1) < l.length - j; omega)
        · dsimp only at IH'
          refine SemW.go tyT_ok mixed ?_
          conv => arg 6; whnf
          refine Holds.mk ((by simp; omega)) ?_
          refine SemW.cutW ?_ ?_ fresh1_nodup (by simp only [avoidT, AV.avoid, hcaps.avoid]; rfl) rfl IH'
          · refine ⟨AvLe.refl _, AvLe.refl _, AvLe.of ?_, AvLe.of (incI (by omega)), trivial⟩
            rw [htk, List.length_append]
            exact incI (by omega)
          · refine ⟨⟨_, rfl, BlkLe.arr (Nat.le_refl _) fun q hq => ?_⟩, trivial⟩
            simp only [Nat.zero_add, Int.toNat_natCast]
            cases hb0 : Nat.beq q (keptL (l.take j) is).length with
            | true =>
              have e := Nat.eq_of_beq_eq_true hb0
              have e2 : (cur.set (keptL (l.take j) is).length l[j]).getD q ⟨0, 0⟩ = l[j] := by subst e; simp [hcl, hq]
              have hgj : cur.getD j ⟨0, 0⟩ = l[j] := by simpa using hg
              rw [e2, ← hgj]
              rfl
            | false =>
              have e : (keptL (l.take j) is).length ≠ q := fun e => by subst e; simp at hb0
              have e2 : (cur.set (keptL (l.take j) is).length l[j]).getD q ⟨0, 0⟩ = cur.getD q ⟨0, 0⟩ := by simp [List.getElem?_set_ne e]
              rw [e2]
              rfl
        · dsimp only at hq ⊢
          rw [htk] at hq ⊢
          by_cases e : q = (keptL (l.take j) is).length
          · subst e
            have : (keptL (l.take j) is).length < cur.length := by omega
            simp [this]
          · have hq' : q < (keptL (l.take j) is).length := by simp at hq; omega
            have := hk q hq'
            simp only [List.getD_eq_getElem?_getD] at this ⊢
            rw [List.getElem?_set_ne (Ne.symm e), List.getElem?_append_left hq']
            exact this
        · dsimp only at hq ⊢
          have := hr q (by omega)
          simp only [List.getD_eq_getElem?_getD] at this ⊢
          rw [List.getElem?_set_ne (by omega)]
          exact this
      · have c3' : is l[j] = true := by simpa using c3
        rw [c3', if_pos rfl] at htk
        have IH' := IH ⟨(cur, j + 1), hcl, hjl, fun q hq => by dsimp only at hq ⊢; rw [htk] at hq ⊢; exact hk q hq, fun q hq => hr q (by dsimp only at hq; omega)⟩ (by show l.length - (j + 1) < l.length - j; omega)
        dsimp only at IH'
        rw [htk] at IH'
        refine SemW.go tyT_ok mixed ?_
        conv => arg 6; whnf
        refine Holds.mk (by first | (simp; done) | (simp; omega) | omega) ?_
        refine SemW.cutW ?_ ?_ fresh1_nodup (by simp only [avoidT, AV.avoid, hcaps.avoid]; rfl) rfl IH'
        · exact ⟨AvLe.refl _, AvLe.refl _, AvLe.refl _, AvLe.of (incI (by omega)), trivial⟩
        · exact ⟨⟨_, rfl, BlkLe.refl _⟩, trivial⟩
    · obtain rfl : j = l.length := by simp at c2; omega
      rw [List.take_length] at hk hkl
      refine SemW.go tyT_ok mixed ?_
      conv => arg 6; whnf
      refine Holds.mk ((by simp [List.take_length]; omega)) ?_
      refine SemW.weak (T' := [(4, .sl (.l 0) gn 2 0 (keptL l is).length (keptL l is).length)]) (L' := [(0, .arr true gn 2 (keptL l is).length (fun i => encP ((keptL l is).getD i ⟨0, 0⟩)))]) ⟨?_, trivial⟩ ⟨⟨_, rfl, BlkLe.arr hkl fun q hq => ?_⟩, trivial⟩ ?_
      · refine AvLe.trans (AvLe.of ?_) (AvLe.sl (cp := cp) (len := (keptL l is).length) rfl (Nat.le_refl _) (by omega))
        rw [List.take_length]
        rfl
      · rw [← hk q hq]
        rw [List.take_length]
        have : (Nat.ble (0 + ((((keptL l is).length : Nat) : Int)).toNat) q) = false := by
          cases hb0 : Nat.ble (0 + ((((keptL l is).length : Nat) : Int)).toNat) q with
          | false => rfl
          | true => have := Nat.le_of_ble_eq_true hb0; simp at this; omega
        simp only [this, Bool.false_and, cond_false]
      · refine SemW.ret tyT_ok func45 [0] rfl rfl rfl (by decide) rfl rfl ?_
        exact ⟨rfl, hQ _ (Nat.le_refl _)⟩
theorem delete_spec (l : List Pl) (gn cp i j : Nat) (h : Hp) (Q : AV → List Blk → Prop) (hl : l.length < 2^40) (hcp : l.length ≤ cp) (hij : i ≤ j) (hj : j ≤ l.length)
    (hQ : ∀ g cp, (l.take i ++ l.drop j).length ≤ cp → Q (.sl (.n 0) g 2 0 (l.take i ++ l.drop j).length cp) [.arr true g 2 (l.take i ++ l.drop j).length (fun q => encP ((l.take i ++ l.drop j).getD q ⟨0, 0⟩))]) :
    SemCM Try.prog 49 [.sl (.n 0) gn 2 0 l.length cp, aint i, aint j] [.arr true gn 2 l.length (fun i => encP (l.getD i ⟨0, 0⟩))] h Q := by
  refine SemCM.enter func49 rfl (Nat.le_of_ble_eq_true rfl) fresh1 fresh1_nodup fresh1_ge ?_
  have hlen : (l.take i ++ l.drop j).length = i + (l.length - j) := by simp; omega
  refine SemW.go tyT_ok mixed ?_
  conv => arg 6; whnf
  refine Holds.mk ((by simp; omega)) ?_
  refine SemW.cond rfl (fun c1 => ?_) (fun c1 => ?_)
  · have e : i = j := by
      have := c1
      simp at this
      omega
    subst e
    rw [List.take_append_drop] at hQ
    refine SemW.go tyT_ok mixed ?_
    conv => arg 6; whnf
    refine Holds.mk (by first | (simp; done) | (simp; omega) | omega) ?_
    refine SemW.ret tyT_ok func49 [0] rfl rfl rfl (by decide) rfl rfl ?_
    exact ⟨rfl, hQ gn cp hcp⟩
  · refine SemW.go tyT_ok mixed ?_
    conv => arg 6; whnf
    refine Holds.mk ((by simp; omega)) ?_
    refine SemW.weak (T' := [(6, .sl (.l 0) (gn + 1) 2 0 (l.take i ++ l.drop j).length (l.take i ++ l.drop j).length)]) (L' := [(0, .arr true (gn + 1) 2 (l.take i ++ l.drop j).length (fun q => encP ((l.take i ++ l.drop j).getD q ⟨0, 0⟩)))]) ⟨?_, trivial⟩ ⟨⟨_, rfl, BlkLe.arr ?_ fun q hq => ?_⟩, trivial⟩ ?_
    · exact AvLe.sl (by rw [hlen]; simp) (Nat.le_refl _) (by rw [hlen]; simp; omega)
    · rw [hlen]; simp
    · rw [hlen] at hq
      simp only [Nat.zero_add, Int.toNat_natCast, Nat.sub_zero]
      have hb1 : Nat.ble (i + (l.length - j)) q = false := by
        cases hb0 : Nat.ble (i + (l.length - j)) q with
        | false => rfl
        | true => have := Nat.le_of_ble_eq_true hb0; omega
      rw [hb1, Bool.false_and]
      simp only [cond_false]
      cases hb2 : Nat.blt q i with
      | true =>
        have hlt := Nat.blt_eq.mp hb2
        have : (l.take i ++ l.drop j).getD q ⟨0, 0⟩ = l.getD q ⟨0, 0⟩ := by
          have h1 : q < (l.take i).length := by simp; omega
          simp only [List.getD_eq_getElem?_getD]
          rw [List.getElem?_append_left h1]
          simp [List.getElem?_take, hlt]
        rw [this]
        rfl
      | false =>
        have hge : i ≤ q := Nat.le_of_not_lt fun hlt => by rw [← Nat.blt_eq, hb2] at hlt; cases hlt
        obtain ⟨m, rfl⟩ := Nat.exists_eq_add_of_le hge
        have : (l.take i ++ l.drop j).getD (i + m) ⟨0, 0⟩ = l.getD (j + m) ⟨0, 0⟩ := by
          have h1 : (l.take i).length = i := by simp; omega
          simp only [List.getD_eq_getElem?_getD]
          rw [List.getElem?_append_right (by omega), h1, Nat.add_sub_cancel_left]
          simp
        rw [this, Nat.add_sub_cancel_left]
        rfl
    · refine SemW.ret tyT_ok func49 [0] rfl rfl rfl (by decide) rfl rfl ?_
      exact ⟨rfl, hQ _ _ (Nat.le_refl _)⟩
end Go.Proofs.Try
set_option linter.unusedVariables false
set_option linter.unusedSimpArgs false
open Go Go.AM
namespace Go.Proofs.Try
set_option maxRecDepth 100000
set_option maxHeartbeats 8000000
def badB (bad : List Pl) (x : Pl) : Bool := bad.any (· == x)
def rn1 (known bad : List Pl) (s : Fr × Bool × List Pl) (old : Pl) : Fr × Bool × List Pl :=
  if badB bad old then ((replacedF s.1 old known).1, s.2.1 || (replacedF s.1 old known).2, if (replacedF s.1 old known).2 then s.2.2 else s.2.2 ++ [old]) else s
def rn2 (w : Int) (s : List Pl × Bool) (old : Pl) : List Pl × Bool :=
  if (s.1.length : Int) > w ∧ 0 ≤ idxF s.1 (· == old) then (s.1.take (idxF s.1 (· == old)).toNat ++ s.1.drop ((idxF s.1 (· == old)).toNat + 1), true) else s
def rn3 (e : Int) (b : List Pl) (x : Pl) : List Pl :=
  if decide ((b.length : Int) < min e 5) && !(b.any fun y => y.node == x.node) then b ++ [x] else b
def renewF (f : Fr) (w e : Int) (bad known : List Pl) : Fr × Bool :=
  let kn := keptL known (badB bad)
  let s1 := f.books.foldl (rn1 kn bad) (f, false, [])
  let s2 := s1.2.2.foldl (rn2 w) (s1.1.books, s1.2.1)
  if s2.2 then (⟨s1.1.first, kn.foldl (rn3 e) s2.1⟩, true) else (F0, false)
theorem foldl_take {α β : Type} (f : β → α → β) (a : β) {l : List α} {i : Nat} (h : i < l.length) : (l.take (i + 1)).foldl f a = f ((l.take i).foldl f a) l[i] := by
  have e : l.take (i + 1) = l.take i ++ [l[i]] := by rw [List.take_add_one, List.getElem?_eq_getElem h]; rfl
  rw [e, List.foldl_append]
  rfl
theorem replacedF_len (f : Fr) (old : Pl) (l : List Pl) : (replacedF f old l).1.books.length = f.books.length := by
  induction l with
  | nil => rfl
  | cons x l ih =>
    unfold replacedF
    split
    · rename_i h
      revert h
      unfold swapF
      split
      · simp
      · split
        · simp
        · simp
    · exact ih
theorem rn1_len (kn bad : List Pl) : ∀ (l : List Pl) (s : Fr × Bool × List Pl), (l.foldl (rn1 kn bad) s).1.books.length = s.1.books.length ∧ (l.foldl (rn1 kn bad) s).2.2.length ≤ s.2.2.length + l.length
  | [], s => ⟨rfl, Nat.le_refl _⟩
  | x :: l, s => by
    obtain ⟨h1, h2⟩ := rn1_len kn bad l (rn1 kn bad s x)
    have h3 : (rn1 kn bad s x).1.books.length = s.1.books.length ∧ (rn1 kn bad s x).2.2.length ≤ s.2.2.length + 1 := by
      unfold rn1
      split
      · refine ⟨replacedF_len _ _ _, ?_⟩
        dsimp only
        split <;> simp
      · exact ⟨rfl, by omega⟩
    simp only [List.foldl_cons, List.length_cons]
    omega
theorem rn2_len (w : Int) : ∀ (l : List Pl) (s : List Pl × Bool), (l.foldl (rn2 w) s).1.length ≤ s.1.length
  | [], s => Nat.le_refl _
  | x :: l, s => by
    have h1 := rn2_len w l (rn2 w s x)
    have h3 : (rn2 w s x).1.length ≤ s.1.length := by
      unfold rn2
      split
      · simp
        omega
      · exact Nat.le_refl _
    simp only [List.foldl_cons]
    omega
theorem renew1_spec (bad : List Pl) (x : Pl) (h : Hp) (Q : AV → Hp → List Blk → Prop) (hl : bad.length < 2^62) (hQ : Q (abool (badB bad x)) h []) : SemC Try.prog 46 [encP x, .vp true 1 (.agg [sP bad]) 0] h Q := by
  refine SemC.enter func46 rfl (Nat.le_of_ble_eq_true rfl) fresh fresh_nodup ?_
  refine SemW.go tyT_ok mixed ?_
  conv => arg 6; whnf
  refine Holds.mk (by first | (simp; done) | (simp; omega) | omega) ?_
  refine SemW.call0 rfl rfl func47 rfl rfl ?_
  refine contains_spec bad x _ _ hl ⟨rfl, rfl, _, rfl, rfl, rfl, ?_⟩
  refine SemW.go tyT_ok mixed ?_
  conv => arg 6; whnf
  refine Holds.mk (by first | (simp; done) | (simp; omega) | omega) ?_
  refine SemW.ret0 tyT_ok func46 rfl rfl rfl ?_
  exact hQ
theorem renew2_spec (x y : Pl) (h : Hp) (Q : AV → Hp → List Blk → Prop) (hQ : Q (abool (y.node == x.node)) h []) : SemC Try.prog 50 [encP y, .vp true 2 (.agg [.val (.int .i64 x.node), .val (.int .u64 x.serial)]) 0] h Q := by
  refine SemC.enter func50 rfl (Nat.le_of_ble_eq_true rfl) fresh fresh_nodup ?_
  refine SemW.go tyT_ok mixed ?_
  conv => arg 6; whnf
  refine Holds.mk (by first | (simp; done) | (simp; omega) | omega) ?_
  refine SemW.ret0 tyT_ok func50 rfl rfl rfl ?_
  exact hQ
theorem renew_spec (fi : Int) (bk : List Pl) (w e : Int) (bad known : List Pl) (h : Hp) (Q : AV → Hp → List Blk → Prop) (hbk : bk.length < 2^40) (hbad : bad.length < 2^40) (hkn : known.length < 2^40) (hQ : Q (.tup [encF (renewF ⟨fi, bk⟩ w e bad known).1, abool (renewF ⟨fi, bk⟩ w e bad known).2]) h []) :
    SemC Try.prog 28 [encF ⟨fi, bk⟩, aint w, aint e, sP bad, sP known] h Q := by
  refine SemC.enter func28 rfl (Nat.le_of_ble_eq_true rfl) fresh fresh_nodup ?_
  refine SemW.go tyT_ok mixed ?_
  conv => arg 6; whnf
  refine Holds.mk (by first | (simp; done) | (simp; omega) | omega) ?_
  refine SemW.call rfl rfl func44 rfl rfl ?_
  refine cloneOwn_spec known _ _ hkn fun g cp hcp => ⟨h, _, rfl, Nat.le_of_ble_eq_true rfl, ?_⟩
  refine SemW.go tyT_ok mixed ?_
  conv => arg 6; whnf
  refine Holds.mk (by first | (simp; done) | (simp; omega) | omega) ?_
  refine SemW.frzW (T' := [(1, aint w), (2, aint e), (5, .ptr (.l 0) 0), (8, .vp true 1 (.agg [sP bad]) 0), (10, .ptr (.l 2) 0), (11, abool false), (24, .sl (.l 3) g 2 0 known.length cp), (25, .fn 46 [.vp true 1 (.agg [sP bad]) 0])]) (L' := [(3, .arr true g 2 known.length (fun i => encP (known.getD i ⟨0, 0⟩))), (2, .obj [.val (.int .u64 0), nilS]), (0, .obj [.val (.int .u64 fi), sP bk])]) 1 rfl rfl
    ⟨AvLe.refl _, trivial, AvLe.refl _, trivial, AvLe.refl _, trivial, AvLe.refl _, trivial, AvLe.refl _, trivial, AvLe.refl _, trivial, AvLe.refl _, trivial, AvLe.refl _, ⟨trivial, trivial⟩, trivial⟩ ⟨rfl, rfl, rfl, ⟨rfl, trivial, trivial, trivial⟩, rfl, ⟨rfl, trivial, trivial, trivial⟩, trivial⟩ ?_
  refine SemW.callM [3] [(2, .obj [.val (.int .u64 0), nilS]), (0, .obj [.val (.int .u64 fi), sP bk])] rfl rfl func45 rfl rfl rfl (by decide) (fun k hk => by have e : k = 3 := (by simpa using hk); subst e; exact (by decide : 3 ∉ [4, 5, 6, 7, 8, 9])) ⟨rfl, rfl, trivial⟩ rfl ?_
  refine deleteFunc_spec known g cp _ _ [.vp true 1 (.agg [sP bad]) 0] (badB bad) _ _ hkn hcp (CapsOk.vp _ _ _ _) func46 rfl rfl (fun p _ h Q hQ => renew1_spec bad p h Q (by omega) hQ) fun cp' hcp' => ⟨Nat.le_of_ble_eq_true rfl, ?_⟩
  have hknl : (keptL known (badB bad)).length < 2^40 := by
    have := List.length_filter_le (fun p => !(badB bad p)) known
    unfold keptL
    omega
  unfold renewF at hQ
  dsimp only at hQ
  generalize keptL known (badB bad) = kn at *
  refine SemW.go tyT_ok mixed ?_
  conv => arg 6; whnf
  refine Holds.mk (by first | (simp; done) | (simp; omega) | omega) ?_
  refine SemW.frzW (T' := [(1, aint w), (2, aint e), (4, sP kn), (8, .vp true 1 (.agg [sP bad]) 0), (10, .ptr (.l 2) 0), (12, abool false), (13, nilS), (14, .ptr (.l 5) 0), (29, sP bk), (30, aint bk.length), (31, aint 0)]) (L' := [(5, .obj [.val (.int .u64 fi), sP bk]), (2, .obj [.val (.int .u64 0), nilS])]) 4 rfl rfl
    ⟨AvLe.refl _, trivial, AvLe.refl _, trivial, AvLe.sP rfl (fun i _ => by rw [Nat.zero_add]), ⟨Nat.le_of_eq (Nat.zero_add _), rfl⟩, AvLe.refl _, trivial, AvLe.refl _, trivial, AvLe.refl _, trivial, AvLe.refl _, trivial, AvLe.refl _, trivial, AvLe.refl _, trivial, AvLe.refl _, trivial, AvLe.refl _, trivial, trivial⟩ ⟨rfl, ⟨rfl, trivial, trivial, trivial⟩, rfl, ⟨rfl, trivial, trivial, trivial⟩, trivial⟩ ?_
  refine SemW.nilRow (t := 13) true 2 (fun i => encP (([] : List Pl).getD i ⟨0, 0⟩)) rfl ?_
  refine SemW.loop (X := {x : Nat × Nat // x.1 ≤ bk.length}) (fun x => [(1, aint w), (2, aint e), (4, sP kn), (8, .vp true 1 (.agg [sP bad]) 0), (10, .ptr (.l 2) 0), (12, abool ((bk.take x.1.1).foldl (rn1 kn bad) (⟨fi, bk⟩, false, [])).2.1), (13, .sl (.l 6) x.1.2 2 0 ((bk.take x.1.1).foldl (rn1 kn bad) (⟨fi, bk⟩, false, [])).2.2.length ((bk.take x.1.1).foldl (rn1 kn bad) (⟨fi, bk⟩, false, [])).2.2.length), (14, .ptr (.l 5) 0), (29, sP bk), (30, aint bk.length), (31, aint x.1.1)])
    (fun x => [(6, .arr true x.1.2 2 ((bk.take x.1.1).foldl (rn1 kn bad) (⟨fi, bk⟩, false, [])).2.2.length (fun i => encP (((bk.take x.1.1).foldl (rn1 kn bad) (⟨fi, bk⟩, false, [])).2.2.getD i ⟨0, 0⟩))), (5, .obj [.val (.int .u64 ((bk.take x.1.1).foldl (rn1 kn bad) (⟨fi, bk⟩, false, [])).1.first), sP ((bk.take x.1.1).foldl (rn1 kn bad) (⟨fi, bk⟩, false, [])).1.books]), (2, .obj [.val (.int .u64 0), nilS])]) (fun _ => [0, 1, 3, 4, 7, 8, 9]) (fun x => bk.length - x.1.1) ⟨(0, 0), Nat.zero_le _⟩
    (SemW.cut ⟨rfl, rfl, rfl, rfl, rfl, rfl, rfl, rfl, rfl, rfl, rfl, trivial⟩ ⟨rfl, rfl, rfl, trivial⟩ (by decide) rfl rfl) (fun ⟨⟨i, gl⟩, hi⟩ IH => ?_)
  dsimp only at hi IH ⊢
  have hlen1 : ∀ i, ((bk.take i).foldl (rn1 kn bad) (⟨fi, bk⟩, false, [])).1.books.length = bk.length := fun i => (rn1_len kn bad (bk.take i) (⟨fi, bk⟩, false, [])).1
  have hlen2 : ((bk.take i).foldl (rn1 kn bad) (⟨fi, bk⟩, false, [])).2.2.length ≤ i := by
    have := (rn1_len kn bad (bk.take i) (⟨fi, bk⟩, false, [])).2
    simp at this
    omega
  refine SemW.go tyT_ok mixed ?_
  conv => arg 6; whnf
  refine Holds.mk (by first | (simp; done) | (simp; omega) | omega) ?_
  refine SemW.cond rfl (fun c1 => ?_) (fun c1 => ?_)
  · have hil : i < bk.length := by simpa using c1
    have hst := foldl_take (rn1 kn bad) (⟨fi, bk⟩, false, []) hil
    have IH' := fun gl' => IH ⟨(i + 1, gl'), hil⟩ (by show bk.length - (i + 1) < bk.length - i; omega)
    dsimp only at IH'
    rw [hst] at IH'
    have hl1 := hlen1 i
    generalize (bk.take i).foldl (rn1 kn bad) (⟨fi, bk⟩, false, []) = s at *
    obtain ⟨⟨gf, gb⟩, so, lf⟩ := s
    dsimp only at *
    have hg : bk.getD i ⟨0, 0⟩ = bk[i] := by simp [hil]
    refine SemW.go tyT_ok mixed ?_
    conv => arg 6; whnf
    refine Holds.mk ((by simp; omega)) ?_
    refine SemW.call0 rfl rfl func47 rfl rfl ?_
    refine contains_spec bad (bk.getD i ⟨0, 0⟩) _ _ (by omega) ⟨rfl, rfl, _, rfl, rfl, rfl, ?_⟩
    refine SemW.go tyT_ok mixed ?_
    conv => arg 6; whnf
    refine Holds.mk (by first | (simp; done) | (simp; omega) | omega) ?_
    refine SemW.cond rfl (fun c2 => ?_) (fun c2 => ?_)
    · have hnb : badB bad bk[i] = false := by rw [← hg]; simpa [badB] using c2
      have hs : rn1 kn bad (⟨gf, gb⟩, so, lf) bk[i] = (⟨gf, gb⟩, so, lf) := by simp [rn1, hnb]
      rw [hs] at IH'
      refine SemW.go tyT_ok mixed ?_
      conv => arg 6; whnf
      refine Holds.mk (by first | (simp; done) | (simp; omega) | omega) ?_
      refine SemW.cut ?_ ?_ (by decide) rfl rfl (IH' gl)
      · exact ⟨rfl, rfl, rfl, rfl, rfl, rfl, rfl, rfl, rfl, rfl, incI (by omega), trivial⟩
      · exact ⟨rfl, rfl, rfl, trivial⟩
    · have hnb : badB bad bk[i] = true := by rw [← hg]; simpa [badB] using c2
      refine SemW.go tyT_ok mixed ?_
      conv => arg 6; whnf
      refine Holds.mk (by first | (simp; done) | (simp; omega) | omega) ?_
      refine SemW.call0 rfl rfl func48 rfl rfl ?_
      refine replaced_spec gf gb (bk.getD i ⟨0, 0⟩) kn _ _ (by omega) (by omega) ⟨rfl, rfl, _, rfl, rfl, rfl, ?_⟩
      have hs : rn1 kn bad (⟨gf, gb⟩, so, lf) bk[i] = ((replacedF ⟨gf, gb⟩ bk[i] kn).1, so || (replacedF ⟨gf, gb⟩ bk[i] kn).2, if (replacedF ⟨gf, gb⟩ bk[i] kn).2 then lf else lf ++ [bk[i]]) := by simp [rn1, hnb]
      rw [hs, ← hg] at IH'
      generalize replacedF ⟨gf, gb⟩ (bk.getD i ⟨0, 0⟩) kn = r at *
      obtain ⟨⟨rf, rb⟩, ok⟩ := r
      dsimp only at *
      refine SemW.go tyT_ok mixed ?_
      conv => arg 6; whnf
      refine Holds.mk (by first | (simp; done) | (simp; omega) | omega) ?_
      refine SemW.cond rfl (fun c3 => ?_) (fun c3 => ?_)
      · have e0 : ok = false := by simpa using c3
        subst e0
        rw [if_neg (by simp)] at IH'
        refine SemW.go tyT_ok mixed ?_
        conv => arg 6; whnf
        refine Holds.mk ((by simp; omega)) ?_
        refine SemW.split (fun c4 => ?_) (fun c4 => ?_)
        · subst c4
          refine SemW.go tyT_ok mixed ?_
          conv => arg 6; whnf
          refine Holds.mk (by first | (simp; done) | (simp; omega) | omega) ?_
          refine SemW.cutW ?_ ?_ (by decide) rfl rfl (IH' (gl + 1))
          · exact ⟨AvLe.refl _, AvLe.refl _, AvLe.refl _, AvLe.refl _, AvLe.refl _, AvLe.refl _, AvLe.sl (by simp) (Nat.le_refl _) (by simp), AvLe.refl _, AvLe.refl _, AvLe.refl _, AvLe.of (incI (by omega)), trivial⟩
          · exact ⟨⟨_, rfl, BlkLe.arr (by simp) (app1P rfl)⟩, ⟨_, rfl, BlkLe.refl _⟩, ⟨_, rfl, BlkLe.refl _⟩, trivial⟩
        · subst c4
          refine SemW.go tyT_ok mixed ?_
          conv => arg 6; whnf
          refine Holds.mk (by first | (simp; done) | (simp; omega) | omega) ?_
          refine SemW.cutW ?_ ?_ (by decide) rfl rfl (IH' (gl + 1))
          · exact ⟨AvLe.refl _, AvLe.refl _, AvLe.refl _, AvLe.refl _, AvLe.refl _, AvLe.refl _, AvLe.sl (by simp) (Nat.le_refl _) (by simp), AvLe.refl _, AvLe.refl _, AvLe.refl _, AvLe.of (incI (by omega)), trivial⟩
          · exact ⟨⟨_, rfl, BlkLe.arr (by simp) (app1P rfl)⟩, ⟨_, rfl, BlkLe.refl _⟩, ⟨_, rfl, BlkLe.refl _⟩, trivial⟩
      · have e0 : ok = true := by simpa using c3
        subst e0
        rw [if_pos rfl] at IH'
        refine SemW.go tyT_ok mixed ?_
        conv => arg 6; whnf
        refine Holds.mk (by first | (simp; done) | (simp; omega) | omega) ?_
        refine SemW.split (fun c4 => ?_) (fun c4 => ?_)
        · subst c4
          refine SemW.go tyT_ok mixed ?_
          conv => arg 6; whnf
          refine Holds.mk (by first | (simp; done) | (simp; omega) | omega) ?_
          refine SemW.cutW ?_ ?_ (by decide) rfl rfl (IH' gl)
          · exact ⟨AvLe.refl _, AvLe.refl _, AvLe.refl _, AvLe.refl _, AvLe.refl _, AvLe.refl _, AvLe.refl _, AvLe.refl _, AvLe.refl _, AvLe.refl _, AvLe.of (incI (by omega)), trivial⟩
          · exact ⟨⟨_, rfl, BlkLe.refl _⟩, ⟨_, rfl, BlkLe.refl _⟩, ⟨_, rfl, BlkLe.refl _⟩, trivial⟩
        · subst c4
          refine SemW.go tyT_ok mixed ?_
          conv => arg 6; whnf
          refine Holds.mk (by first | (simp; done) | (simp; omega) | omega) ?_
          refine SemW.cutW ?_ ?_ (by decide) rfl rfl (IH' gl)
          · exact ⟨AvLe.refl _, AvLe.refl _, AvLe.refl _, AvLe.refl _, AvLe.refl _, AvLe.refl _, AvLe.refl _, AvLe.refl _, AvLe.refl _, AvLe.refl _, AvLe.of (incI (by omega)), trivial⟩
          · exact ⟨⟨_, rfl, BlkLe.refl _⟩, ⟨_, rfl, BlkLe.refl _⟩, ⟨_, rfl, BlkLe.refl _⟩, trivial⟩
  · obtain rfl : i = bk.length := by simp at c1; omega
    rw [List.take_length] at *
    have hl1 := hlen1 bk.length
    rw [List.take_length] at hl1
    clear IH hlen1
    generalize bk.foldl (rn1 kn bad) (⟨fi, bk⟩, false, []) = s at *
    obtain ⟨⟨gf, gb⟩, so, lf⟩ := s
    dsimp only at *
    refine SemW.frzW (T' := [(1, aint w), (2, aint e), (4, sP kn), (10, .ptr (.l 2) 0), (12, abool so), (13, sP lf), (14, .ptr (.l 5) 0)]) (L' := [(5, .obj [.val (.int .u64 gf), sP gb]), (2, .obj [.val (.int .u64 0), nilS])]) 6 rfl rfl
      ⟨AvLe.refl _, trivial, AvLe.refl _, trivial, AvLe.refl _, trivial, AvLe.refl _, trivial, AvLe.refl _, trivial, AvLe.sP rfl (fun i _ => by rw [Nat.zero_add]), ⟨Nat.le_of_eq (Nat.zero_add _), rfl⟩, AvLe.refl _, trivial, trivial⟩ ⟨rfl, ⟨rfl, trivial, trivial, trivial⟩, rfl, ⟨rfl, trivial, trivial, trivial⟩, trivial⟩ ?_
    refine SemW.go tyT_ok mixed ?_
    conv => arg 6; whnf
    refine Holds.mk (by first | (simp; done) | (simp; omega) | omega) ?_
    refine SemW.call rfl rfl func44 rfl rfl ?_
    refine cloneOwn_spec gb _ _ (by omega) fun g2 cp2 hcp2 => ⟨h, _, rfl, Nat.le_of_ble_eq_true rfl, ?_⟩
    refine SemW.go tyT_ok mixed ?_
    conv => arg 6; whnf
    refine Holds.mk (by first | (simp; done) | (simp; omega) | omega) ?_
    refine SemW.loop (X := {x : Nat × Nat × Nat // x.1 ≤ lf.length ∧ ((lf.take x.1).foldl (rn2 w) (gb, so)).1.length ≤ x.2.2}) (fun x => [(1, aint w), (2, aint e), (4, sP kn), (10, .ptr (.l 2) 0), (12, abool ((lf.take x.1.1).foldl (rn2 w) (gb, so)).2), (14, .ptr (.l 5) 0), (61, sP lf), (62, aint lf.length), (63, aint x.1.1)])
      (fun x => [(0, .arr true x.1.2.1 2 ((lf.take x.1.1).foldl (rn2 w) (gb, so)).1.length (fun i => encP (((lf.take x.1.1).foldl (rn2 w) (gb, so)).1.getD i ⟨0, 0⟩))), (5, .obj [.val (.int .u64 gf), .sl (.l 0) x.1.2.1 2 0 ((lf.take x.1.1).foldl (rn2 w) (gb, so)).1.length x.1.2.2]), (2, .obj [.val (.int .u64 0), nilS])]) (fun _ => [1, 3, 4, 6, 7, 8, 9]) (fun x => lf.length - x.1.1) ⟨(0, g2, cp2), Nat.zero_le _, hcp2⟩
      (SemW.cut ⟨rfl, rfl, rfl, rfl, rfl, rfl, rfl, rfl, rfl, trivial⟩ ⟨rfl, rfl, rfl, trivial⟩ (by decide) rfl rfl) (fun ⟨⟨i, gn, cn⟩, hi, hcn⟩ IH => ?_)
    dsimp only at hi hcn IH ⊢
    have hlen3 : ∀ i, ((lf.take i).foldl (rn2 w) (gb, so)).1.length ≤ gb.length := fun i => rn2_len w (lf.take i) (gb, so)
    refine SemW.go tyT_ok mixed ?_
    conv => arg 6; whnf
    refine Holds.mk (by first | (simp; done) | (simp; omega) | omega) ?_
    refine SemW.cond rfl (fun d1 => ?_) (fun d1 => ?_)
    · have hil : i < lf.length := by simpa using d1
      have hst := foldl_take (rn2 w) (gb, so) hil
      have IH' := fun g' c' hc' => IH ⟨(i + 1, g', c'), hil, hc'⟩ (by show lf.length - (i + 1) < lf.length - i; omega)
      dsimp only at IH'
      rw [hst] at IH'
      have hl3 := hlen3 i
      clear IH hlen3
      generalize (lf.take i).foldl (rn2 w) (gb, so) = s at *
      obtain ⟨b, sm⟩ := s
      dsimp only at *
      have hg : lf.getD i ⟨0, 0⟩ = lf[i] := by simp [hil]
      rw [← hg] at IH'
      refine SemW.go tyT_ok mixed ?_
      conv => arg 6; whnf
      refine Holds.mk ((by simp; omega)) ?_
      refine SemW.call0 rfl rfl func43 rfl rfl ?_
      refine SemC.view [sP b, encP (lf.getD i ⟨0, 0⟩)] ⟨AvLe.sP rfl (fun i _ => by rw [Nat.zero_add]), AvLe.refl _, trivial⟩ ⟨⟨Nat.le_of_eq (Nat.zero_add _), rfl⟩, ⟨trivial, trivial, trivial⟩, trivial⟩ ?_
      refine index_spec b (lf.getD i ⟨0, 0⟩) _ _ (by omega) ⟨rfl, trivial, rfl, rfl, _, rfl, rfl, rfl, ?_⟩
      have hrn : rn2 w (b, sm) (lf.getD i ⟨0, 0⟩) = if (b.length : Int) > w ∧ 0 ≤ idxF b (· == lf.getD i ⟨0, 0⟩) then (b.take (idxF b (· == lf.getD i ⟨0, 0⟩)).toNat ++ b.drop ((idxF b (· == lf.getD i ⟨0, 0⟩)).toNat + 1), true) else (b, sm) := rfl
      have hkb : idxF b (· == lf.getD i ⟨0, 0⟩) < b.length := by
        unfold idxF
        split <;> omega
      rw [hrn] at IH'
      generalize idxF b (· == lf.getD i ⟨0, 0⟩) = k at *
      refine SemW.go tyT_ok mixed ?_
      conv => arg 6; whnf
      refine Holds.mk (by first | (simp; done) | (simp; omega) | omega) ?_
      refine SemW.split (fun d2 => ?_) (fun d2 => ?_)
      · have d2' : (b.length : Int) > w := by simpa using d2
        refine SemW.go tyT_ok mixed ?_
        conv => arg 6; whnf
        refine Holds.mk (by first | (simp; done) | (simp; omega) | omega) ?_
        refine SemW.cond rfl (fun d3 => ?_) (fun d3 => ?_)
        · have d3' : 0 ≤ k := by simpa using d3
          obtain ⟨m, rfl⟩ : ∃ m : Nat, k = m := ⟨k.toNat, by omega⟩
          rw [if_pos ⟨d2', d3'⟩, Int.toNat_natCast] at IH'
          dsimp only at IH'
          refine SemW.go tyT_ok mixed ?_
          conv => arg 6; whnf
          refine Holds.mk (by first | (simp; done) | (simp; omega) | omega) ?_
          refine SemW.weak (T' := [(1, aint w), (2, aint e), (4, sP kn), (10, .ptr (.l 2) 0), (14, .ptr (.l 5) 0), (61, sP lf), (62, aint lf.length), (63, aint i), (81, .sl (.l 0) gn 2 0 b.length cn), (82, aint m), (84, aint ((m + 1 : Nat) : Int))]) (L' := [(0, .arr true gn 2 b.length (fun i => encP (b.getD i ⟨0, 0⟩))), (5, .obj [.val (.int .u64 gf), .bot]), (2, .obj [.val (.int .u64 0), nilS])])
            ⟨AvLe.refl _, AvLe.refl _, AvLe.refl _, AvLe.refl _, AvLe.refl _, AvLe.refl _, AvLe.refl _, AvLe.refl _, AvLe.refl _, AvLe.refl _, AvLe.of (incI (by omega)), trivial⟩ ⟨⟨_, rfl, BlkLe.refl _⟩, ⟨_, rfl, BlkLe.obj ⟨AvLe.refl _, fun _ _ _ _ => Rel.bot _, trivial⟩⟩, ⟨_, rfl, BlkLe.refl _⟩, trivial⟩ ?_
          refine SemW.callM [0] [(5, .obj [.val (.int .u64 gf), .bot]), (2, .obj [.val (.int .u64 0), nilS])] rfl rfl func49 rfl rfl rfl (by decide) (by decide) ⟨rfl, rfl, trivial⟩ rfl ?_
          refine delete_spec b gn cn m (m + 1) _ _ (by omega) hcn (by omega) (by omega) fun g3 cp3 hcp3 => ⟨Nat.le_of_ble_eq_true rfl, ?_⟩
          refine SemW.go tyT_ok mixed ?_
          conv => arg 6; whnf
          refine Holds.mk (by first | (simp; done) | (simp; omega) | omega) ?_
          refine SemW.swap 0 3 ?_
          refine SemW.cutW ?_ ?_ (by decide) rfl rfl (IH' g3 cp3 hcp3)
          · exact ⟨AvLe.refl _, AvLe.refl _, AvLe.refl _, AvLe.refl _, AvLe.refl _, AvLe.refl _, AvLe.refl _, AvLe.refl _, AvLe.of (incI (by omega)), trivial⟩
          · exact ⟨⟨_, rfl, BlkLe.refl _⟩, ⟨_, rfl, BlkLe.refl _⟩, ⟨_, rfl, BlkLe.refl _⟩, trivial⟩
        · have d3' : ¬ 0 ≤ k := by simpa using d3
          rw [if_neg (fun h => d3' h.2)] at IH'
          refine SemW.go tyT_ok mixed ?_
          conv => arg 6; whnf
          refine Holds.mk (by first | (simp; done) | (simp; omega) | omega) ?_
          refine SemW.cut ?_ ?_ (by decide) rfl rfl (IH' gn cn hcn)
          · exact ⟨rfl, rfl, rfl, rfl, rfl, rfl, rfl, rfl, incI (by omega), trivial⟩
          · exact ⟨rfl, rfl, rfl, trivial⟩
      · have d2' : ¬ (b.length : Int) > w := by simpa using d2
        rw [if_neg (fun h => d2' h.1)] at IH'
        refine SemW.go tyT_ok mixed ?_
        conv => arg 6; whnf
        refine Holds.mk (by first | (simp; done) | (simp; omega) | omega) ?_
        refine SemW.condF rfl ?_
        refine SemW.go tyT_ok mixed ?_
        conv => arg 6; whnf
        refine Holds.mk (by first | (simp; done) | (simp; omega) | omega) ?_
        refine SemW.cut ?_ ?_ (by decide) rfl rfl (IH' gn cn hcn)
        · exact ⟨rfl, rfl, rfl, rfl, rfl, rfl, rfl, rfl, incI (by omega), trivial⟩
        · exact ⟨rfl, rfl, rfl, trivial⟩
    · obtain rfl : i = lf.length := by simp at d1; omega
      have hl3 := hlen3 lf.length
      rw [List.take_length] at *
      clear IH hlen3
      generalize lf.foldl (rn2 w) (gb, so) = s at *
      obtain ⟨b, sm⟩ := s
      dsimp only at *
      refine SemW.go tyT_ok mixed ?_
      conv => arg 6; whnf
      refine Holds.mk (by first | (simp; done) | (simp; omega) | omega) ?_
      refine SemW.cond rfl (fun d4 => ?_) (fun d4 => ?_)
      · have e0 : sm = false := by simpa using d4
        subst e0
        rw [if_neg (by simp)] at hQ
        refine SemW.go tyT_ok mixed ?_
        conv => arg 6; whnf
        refine Holds.mk (by first | (simp; done) | (simp; omega) | omega) ?_
        refine SemW.weak (T' := [(10, .ptr (.l 2) 0), (11, abool false)]) (L' := [(2, .obj [.val (.int .u64 0), sP []])]) ⟨AvLe.refl _, AvLe.refl _, trivial⟩ ⟨⟨_, rfl, BlkLe.obj ⟨AvLe.refl _, AvLe.nil _ _ _ _, trivial⟩⟩, trivial⟩ ?_
        refine SemW.ret0 tyT_ok func28 rfl rfl rfl ?_
        exact hQ
      · have e0 : sm = true := by simpa using d4
        subst e0
        rw [if_pos rfl] at hQ
        refine SemW.go tyT_ok mixed ?_
        conv => arg 6; whnf
        refine Holds.mk (by first | (simp; done) | (simp; omega) | omega) ?_
        refine SemW.loop (X := {x : Nat × Nat × Nat // x.1 ≤ kn.length ∧ ((kn.take x.1).foldl (rn3 e) b).length ≤ x.2.2}) (fun x => [(2, aint e), (10, .ptr (.l 2) 0), (14, .ptr (.l 5) 0), (91, sP kn), (92, aint kn.length), (93, aint x.1.1)])
          (fun x => [(0, .arr true x.1.2.1 2 ((kn.take x.1.1).foldl (rn3 e) b).length (fun i => encP (((kn.take x.1.1).foldl (rn3 e) b).getD i ⟨0, 0⟩))), (5, .obj [.val (.int .u64 gf), .sl (.l 0) x.1.2.1 2 0 ((kn.take x.1.1).foldl (rn3 e) b).length x.1.2.2]), (2, .obj [.val (.int .u64 0), nilS])]) (fun _ => [1, 3, 4, 6, 7, 8, 9]) (fun x => kn.length - x.1.1) ⟨(0, gn, cn), Nat.zero_le _, hcn⟩
          (SemW.cut ⟨rfl, rfl, rfl, rfl, rfl, rfl, trivial⟩ ⟨rfl, rfl, rfl, trivial⟩ (by decide) rfl rfl) (fun ⟨⟨j, gj, cj⟩, hj, hcj⟩ IH => ?_)
        dsimp only at hj hcj IH ⊢
        refine SemW.go tyT_ok mixed ?_
        conv => arg 6; whnf
        refine Holds.mk (by first | (simp; done) | (simp; omega) | omega) ?_
        refine SemW.cond rfl (fun f1 => ?_) (fun f1 => ?_)
        · have hjl : j < kn.length := by simpa using f1
          have hst := foldl_take (rn3 e) b hjl
          have IH' := fun g' c' hc' => IH ⟨(j + 1, g', c'), hjl, hc'⟩ (by show kn.length - (j + 1) < kn.length - j; omega)
          dsimp only at IH'
          rw [hst] at IH'
          clear IH
          generalize (kn.take j).foldl (rn3 e) b = b' at *
          have hg : kn.getD j ⟨0, 0⟩ = kn[j] := by simp [hjl]
          rw [← hg] at IH'
          refine SemW.go tyT_ok mixed ?_
          conv => arg 6; whnf
          refine Holds.mk ((by simp; omega)) ?_
          have hmin : (if 5 < e then 5 else e) = min e 5 := by rw [Int.min_def]; split <;> split <;> omega
          have hrn : rn3 e b' (kn.getD j ⟨0, 0⟩) = if (decide ((b'.length : Int) < min e 5) && !(b'.any fun y => y.node == (kn.getD j ⟨0, 0⟩).node)) = true then b' ++ [kn.getD j ⟨0, 0⟩] else b' := rfl
          rw [hrn] at IH'
          refine SemW.split (fun f2 => ?_) (fun f2 => ?_)
          · have f2' : decide ((b'.length : Int) < min e 5) = true := by rw [← hmin]; exact f2
            rw [f2', Bool.true_and] at IH'
            have hb5 : b'.length < 5 := by
              have h1 : (b'.length : Int) < min e 5 := of_decide_eq_true f2'
              omega
            refine SemW.go tyT_ok mixed ?_
            conv => arg 6; whnf
            refine Holds.mk (by first | (simp; done) | (simp; omega) | omega) ?_
            refine SemW.call0 rfl rfl func40 rfl rfl ?_
            refine SemC.view [sP b', .fn 50 [.vp true 2 (.agg [.val (.int .i64 (kn.getD j ⟨0, 0⟩).node), .val (.int .u64 (kn.getD j ⟨0, 0⟩).serial)]) 0]] ⟨AvLe.sP rfl (fun i _ => by rw [Nat.zero_add]), AvLe.refl _, trivial⟩ ⟨⟨Nat.le_of_eq (Nat.zero_add _), rfl⟩, ⟨trivial, trivial⟩, trivial⟩ ?_
            refine containsFunc_spec b' _ _ _ (fun y => y.node == (kn.getD j ⟨0, 0⟩).node) _ _ (by omega) rfl func50 rfl rfl (fun p _ h Q hQ => renew2_spec (kn.getD j ⟨0, 0⟩) p h Q hQ) ⟨rfl, trivial, rfl, rfl, _, rfl, rfl, rfl, ?_⟩
            refine SemW.go tyT_ok mixed ?_
            conv => arg 6; whnf
            refine Holds.mk (by first | (simp; done) | (simp; omega) | omega) ?_
            refine SemW.cond rfl (fun f3 => ?_) (fun f3 => ?_)
            · rw [if_pos f3] at IH'
              refine SemW.go tyT_ok mixed ?_
              conv => arg 6; whnf
              refine Holds.mk ((by simp; omega)) ?_
              refine SemW.cutW ?_ ?_ (by decide) rfl rfl (IH' (gj + 1) (b'.length + 1) (by simp))
              · exact ⟨AvLe.refl _, AvLe.refl _, AvLe.refl _, AvLe.refl _, AvLe.refl _, AvLe.of (incI (by omega)), trivial⟩
              · exact ⟨⟨_, rfl, BlkLe.arr (by simp) (app1P rfl)⟩, ⟨_, rfl, BlkLe.obj ⟨AvLe.refl _, AvLe.sl (by simp) (by simp) (Nat.le_max_right _ _), trivial⟩⟩, ⟨_, rfl, BlkLe.refl _⟩, trivial⟩
            · rw [if_neg (by rw [f3]; simp)] at IH'
              refine SemW.go tyT_ok mixed ?_
              conv => arg 6; whnf
              refine Holds.mk (by first | (simp; done) | (simp; omega) | omega) ?_
              refine SemW.cut ?_ ?_ (by decide) rfl rfl (IH' gj cj hcj)
              · exact ⟨rfl, rfl, rfl, rfl, rfl, incI (by omega), trivial⟩
              · exact ⟨rfl, rfl, rfl, trivial⟩
          · have f2' : decide ((b'.length : Int) < min e 5) = false := by rw [← hmin]; exact f2
            rw [f2', Bool.false_and, if_neg (by simp)] at IH'
            refine SemW.go tyT_ok mixed ?_
            conv => arg 6; whnf
            refine Holds.mk (by first | (simp; done) | (simp; omega) | omega) ?_
            refine SemW.condF rfl ?_
            refine SemW.go tyT_ok mixed ?_
            conv => arg 6; whnf
            refine Holds.mk (by first | (simp; done) | (simp; omega) | omega) ?_
            refine SemW.cut ?_ ?_ (by decide) rfl rfl (IH' gj cj hcj)
            · exact ⟨rfl, rfl, rfl, rfl, rfl, incI (by omega), trivial⟩
            · exact ⟨rfl, rfl, rfl, trivial⟩
        · obtain rfl : j = kn.length := by simp at f1; omega
          rw [List.take_length] at *
          clear IH
          generalize kn.foldl (rn3 e) b = b' at *
          refine SemW.go tyT_ok mixed ?_
          conv => arg 6; whnf
          refine Holds.mk (by first | (simp; done) | (simp; omega) | omega) ?_
          refine SemW.frzW (T' := [(10, .ptr (.l 2) 0), (11, abool true)]) (L' := [(2, .obj [.val (.int .u64 gf), .vs true 2 b'.length _])]) 0 rfl rfl ⟨AvLe.refl _, trivial, AvLe.refl _, trivial, trivial⟩ ⟨rfl, ⟨rfl, trivial, ⟨Nat.le_of_eq (Nat.zero_add _), rfl⟩, trivial⟩, trivial⟩ ?_
          refine SemW.weak (T' := [(10, .ptr (.l 2) 0), (11, abool true)]) (L' := [(2, .obj [.val (.int .u64 gf), sP b'])]) ⟨AvLe.refl _, AvLe.refl _, trivial⟩ ⟨⟨_, rfl, BlkLe.obj ⟨AvLe.refl _, AvLe.sP rfl (fun q hq => by rw [Nat.zero_add]), trivial⟩⟩, trivial⟩ ?_
          refine SemW.ret0 tyT_ok func28 rfl rfl rfl ?_
          exact hQ
end Go.Proofs.Try
set_option linter.unusedVariables false
set_option linter.unusedSimpArgs false
open Go Go.AM
namespace Go.Proofs.Try
set_option maxRecDepth 100000
set_option maxHeartbeats 4000000
def nodeB (l : List Pl) (n but : Int) (i : Nat) : Bool := !((i : Int) == but) && ((l.getD i P0).node == n)
theorem node_spec (l : List Pl) (n but : Int) (h : Hp) (Q : AV → Hp → List Blk → Prop) (hl : l.length < 2^62) (hQ : Q (abool ((List.range l.length).any (nodeB l n but))) h []) : SemC Try.prog 51 [sP l, aint n, aint but] h Q := by
  refine SemC.enter func51 rfl (Nat.le_of_ble_eq_true rfl) fresh fresh_nodup ?_
  refine SemW.go tyT_ok mixed ?_
  conv => arg 6; whnf
  refine Holds.mk (by first | (simp; done) | (simp; omega) | omega) ?_
  refine SemW.loop (X := {i : Nat // i ≤ l.length ∧ (List.range i).any (nodeB l n but) = false}) (fun i => [(0, sP l), (1, aint n), (2, aint but), (7, aint i.1)]) (fun _ => []) (fun _ => fresh) (fun i => l.length - i.1) ⟨0, Nat.zero_le _, rfl⟩ (SemW.cut ⟨rfl, rfl, rfl, rfl, trivial⟩ trivial fresh_nodup rfl rfl) (fun ⟨i, hi, ha⟩ IH => ?_)
  dsimp only at hi ha IH ⊢
  refine SemW.go tyT_ok mixed ?_
  conv => arg 6; whnf
  refine Holds.mk (by first | (simp; done) | (simp; omega) | omega) ?_
  refine SemW.cond rfl (fun c1 => ?_) (fun c1 => ?_)
  · have hil : i < l.length := by simpa using c1
    have step := fun (hf : nodeB l n but i = false) => IH ⟨i + 1, hil, any_succ ha hf⟩ (by show l.length - (i + 1) < l.length - i; omega)
    refine SemW.go tyT_ok mixed ?_
    conv => arg 6; whnf
    refine Holds.mk (by first | (simp; done) | (simp; omega) | omega) ?_
    refine SemW.split (fun c2 => ?_) (fun c2 => ?_)
    · have c2' : (!((i : Int) == but)) = true := c2
      refine SemW.go tyT_ok mixed ?_
      conv => arg 6; whnf
      refine Holds.mk ((by simp; omega)) ?_
      refine SemW.cond rfl (fun c3 => ?_) (fun c3 => ?_)
      · refine SemW.go tyT_ok mixed ?_
        conv => arg 6; whnf
        refine Holds.mk (by first | (simp; done) | (simp; omega) | omega) ?_
        refine SemW.ret0 tyT_ok func51 rfl rfl rfl ?_
        have hT : nodeB l n but i = true := by unfold nodeB; rw [c2', Bool.true_and]; exact c3
        rw [any_true hil hT] at hQ
        exact hQ
      · refine SemW.go tyT_ok mixed ?_
        conv => arg 6; whnf
        refine Holds.mk (by first | (simp; done) | (simp; omega) | omega) ?_
        refine SemW.cut ?_ ?_ fresh_nodup rfl rfl (step (by unfold nodeB; rw [c2', Bool.true_and]; exact c3))
        · exact ⟨rfl, rfl, rfl, incI (by omega), trivial⟩
        · trivial
    · have c2' : (!((i : Int) == but)) = false := c2
      refine SemW.go tyT_ok mixed ?_
      conv => arg 6; whnf
      refine Holds.mk (by first | (simp; done) | (simp; omega) | omega) ?_
      refine SemW.condF rfl ?_
      refine SemW.go tyT_ok mixed ?_
      conv => arg 6; whnf
      refine Holds.mk (by first | (simp; done) | (simp; omega) | omega) ?_
      refine SemW.cut ?_ ?_ fresh_nodup rfl rfl (step (by unfold nodeB; rw [c2', Bool.false_and]))
      · exact ⟨rfl, rfl, rfl, incI (by omega), trivial⟩
      · trivial
  · obtain rfl : i = l.length := by simp at c1; omega
    rw [ha] at hQ
    refine SemW.go tyT_ok mixed ?_
    conv => arg 6; whnf
    refine Holds.mk (by first | (simp; done) | (simp; omega) | omega) ?_
    refine SemW.ret0 tyT_ok func51 rfl rfl rfl ?_
    exact hQ
theorem take_succ_eq {a b : List Pl} {j : Nat} (h1 : j < a.length) (h2 : j < b.length) (h : a.take j = b.take j) (he : a.getD j P0 = b.getD j P0) : a.take (j + 1) = b.take (j + 1) := by
  rw [List.take_add_one, List.take_add_one, h]
  congr 1
  simp [h1, h2] at he
  simp [h1, h2, he]
/-- two rows of fragments -/
theorem sameFrags_spec (a b : List Fr) (h : Hp) (Q : AV → Hp → List Blk → Prop) (ha : a.length < 2^62) (hba : ∀ f ∈ a, f.books.length < 2^62) (hQ : Q (abool (decide (a = b))) h []) : SemC Try.prog 27 [sF a, sF b] h Q := by
  refine SemC.enter func27 rfl (Nat.le_of_ble_eq_true rfl) fresh fresh_nodup ?_
  refine SemW.go tyT_ok mixed ?_
  conv => arg 6; whnf
  refine Holds.mk (by first | (simp; done) | (simp; omega) | omega) ?_
  refine SemW.cond rfl (fun c1 => ?_) (fun c1 => ?_)
  · refine SemW.go tyT_ok mixed ?_
    conv => arg 6; whnf
    refine Holds.mk (by first | (simp; done) | (simp; omega) | omega) ?_
    refine SemW.ret0 tyT_ok func27 rfl rfl rfl ?_
    have : decide (a = b) = false := by simp at c1 ⊢; intro e; exact c1 (by rw [e])
    rw [this] at hQ
    exact hQ
  · have hlen : a.length = b.length := by simp at c1; omega
    refine SemW.go tyT_ok mixed ?_
    conv => arg 6; whnf
    refine Holds.mk (by first | (simp; done) | (simp; omega) | omega) ?_
    refine SemW.loop (X := {i : Nat // i ≤ a.length ∧ a.take i = b.take i}) (fun i => [(0, sF a), (1, sF b), (5, aint i.1)]) (fun _ => []) (fun _ => fresh) (fun i => a.length - i.1) ⟨0, by simp⟩ (SemW.cut ⟨rfl, rfl, rfl, trivial⟩ trivial fresh_nodup rfl rfl) (fun ⟨i, hi, hab⟩ IH => ?_)
    dsimp only at hi hab IH ⊢
    refine SemW.go tyT_ok mixed ?_
    conv => arg 6; whnf
    refine Holds.mk (by first | (simp; done) | (simp; omega) | omega) ?_
    refine SemW.cond rfl (fun c2 => ?_) (fun c2 => ?_)
    · have hil : i < a.length := by simpa using c2
      have hib : i < b.length := by omega
      have bad : a.getD i F0 ≠ b.getD i F0 → Q (abool false) h [] := fun hne => by
        have : decide (a = b) = false := by
          simp only [decide_eq_false_iff_not]
          intro e
          subst e
          exact hne rfl
        rw [this] at hQ
        exact hQ
      have IH' := fun (he : a.getD i F0 = b.getD i F0) => IH ⟨i + 1, hil, by
        rw [List.take_add_one, List.take_add_one, hab]
        congr 1
        simp [hil, hib] at he
        simp [hil, hib, he]⟩ (by show a.length - (i + 1) < a.length - i; omega)
      have hbl : (a.getD i F0).books.length < 2^62 := by
        have : a.getD i F0 = a[i] := by simp [hil]
        rw [this]
        exact hba _ (List.getElem_mem hil)
      refine SemW.go tyT_ok mixed ?_
      conv => arg 6; whnf
      refine Holds.mk (by first | (simp; done) | (simp; omega) | omega) ?_
      refine SemW.draw mixed rfl rfl ?_
      refine SemDr.go tyT_ok ?_
      conv => arg 9; whnf
      refine HoldsD.mk ((by simp; omega)) ?_
      refine SemDr.split (fun c3 => ?_) (fun c3 => ?_)
      · refine SemDr.go tyT_ok ?_
        conv => arg 9; whnf
        refine HoldsD.mk (by simp) ?_
        refine SemDr.end rfl ?_
        refine SemW.go tyT_ok mixed ?_
        conv => arg 6; whnf
        refine Holds.mk (by first | (simp; done) | (simp; omega) | omega) ?_
        refine SemW.condT rfl ?_
        refine SemW.go tyT_ok mixed ?_
        conv => arg 6; whnf
        refine Holds.mk (by first | (simp; done) | (simp; omega) | omega) ?_
        refine SemW.ret0 tyT_ok func27 rfl rfl rfl ?_
        refine bad fun e => ?_
        have c3' : ((a.getD i F0).first != (b.getD i F0).first) = true := c3
        rw [e] at c3'
        simp at c3'
      · have c3' : (a.getD i F0).first = (b.getD i F0).first := by
          have c3' : ((a.getD i F0).first != (b.getD i F0).first) = false := c3
          simpa using c3'
        refine SemDr.go tyT_ok ?_
        conv => arg 9; whnf
        refine HoldsD.mk ((by simp; omega)) ?_
        refine SemDr.end rfl ?_
        refine SemW.go tyT_ok mixed ?_
        conv => arg 6; whnf
        refine Holds.mk (by first | (simp; done) | (simp; omega) | omega) ?_
        refine SemW.cond rfl (fun c4 => ?_) (fun c4 => ?_)
        · refine SemW.go tyT_ok mixed ?_
          conv => arg 6; whnf
          refine Holds.mk (by first | (simp; done) | (simp; omega) | omega) ?_
          refine SemW.ret0 tyT_ok func27 rfl rfl rfl ?_
          refine bad fun e => ?_
          have c4' : (((a.getD i F0).books.length : Int) != ((b.getD i F0).books.length : Int)) = true := c4
          rw [e] at c4'
          simp at c4'
        · have c4' : (a.getD i F0).books.length = (b.getD i F0).books.length := by
            have c4' : (((a.getD i F0).books.length : Int) != ((b.getD i F0).books.length : Int)) = false := c4
            rw [bne_eq_false_iff_eq] at c4'
            omega
          refine SemW.go tyT_ok mixed ?_
          conv => arg 6; whnf
          refine Holds.mk (by first | (simp; done) | (simp; omega) | omega) ?_
          refine SemW.loop (X := {j : Nat // j ≤ (a.getD i F0).books.length ∧ (a.getD i F0).books.take j = (b.getD i F0).books.take j}) (fun j => [(0, sF a), (1, sF b), (5, aint i), (6, aint j.1)]) (fun _ => []) (fun _ => fresh) (fun j => (a.getD i F0).books.length - j.1) ⟨0, by simp⟩ (SemW.cut ⟨rfl, rfl, rfl, rfl, trivial⟩ trivial fresh_nodup rfl rfl) (fun ⟨j, hj, hjab⟩ IH2 => ?_)
          dsimp only at hj hjab IH2 ⊢
          refine SemW.go tyT_ok mixed ?_
          conv => arg 6; whnf
          refine Holds.mk ((by simp; omega)) ?_
          refine SemW.cond rfl (fun c5 => ?_) (fun c5 => ?_)
          · have hjl : j < (a.getD i F0).books.length := by
              have c5' : decide ((j : Int) < ((a.getD i F0).books.length : Int)) = true := c5
              simpa using c5'
            have hjb : j < (b.getD i F0).books.length := by omega
            have hbad : (a.getD i F0).books.getD j P0 ≠ (b.getD i F0).books.getD j P0 → Q (abool false) h [] := fun hne => bad fun e => hne (by rw [e])
            have hjb' : j < (b.getD i ⟨0, []⟩).books.length := hjb
            have hjl' : j < (a.getD i ⟨0, []⟩).books.length := hjl
            refine SemW.go tyT_ok mixed ?_
            conv => arg 6; whnf
            refine Holds.mk ((by simp only [Int.toNat_natCast, true_and, and_true]; omega)) ?_
            refine SemW.cond rfl (fun c6 => ?_) (fun c6 => ?_)
            · refine SemW.go tyT_ok mixed ?_
              conv => arg 6; whnf
              refine Holds.mk (by first | (simp; done) | (simp; omega) | omega) ?_
              refine SemW.ret0 tyT_ok func27 rfl rfl rfl ?_
              refine hbad fun e => ?_
              have c6' : (!((((a.getD i F0).books.getD j P0).node == ((b.getD i F0).books.getD j P0).node) && (((a.getD i F0).books.getD j P0).serial == ((b.getD i F0).books.getD j P0).serial && true))) = true := c6
              rw [e] at c6'
              simp at c6'
            · have c6' : (!((((a.getD i F0).books.getD j P0).node == ((b.getD i F0).books.getD j P0).node) && (((a.getD i F0).books.getD j P0).serial == ((b.getD i F0).books.getD j P0).serial && true))) = false := c6
              rw [eqP] at c6'
              have he : (a.getD i F0).books.getD j P0 = (b.getD i F0).books.getD j P0 := by
                rw [Bool.not_eq_false'] at c6'
                exact eq_of_beq c6'
              refine SemW.go tyT_ok mixed ?_
              conv => arg 6; whnf
              refine Holds.mk (by first | (simp; done) | (simp; omega) | omega) ?_
              refine SemW.cut ?_ ?_ fresh_nodup rfl rfl (IH2 ⟨j + 1, hjl, take_succ_eq hjl hjb hjab he⟩ (by show (a.getD i F0).books.length - (j + 1) < (a.getD i F0).books.length - j; omega))
              · exact ⟨rfl, rfl, rfl, incI (by omega), trivial⟩
              · trivial
          · have hje : j = (a.getD i F0).books.length := by
              have c5' : decide ((j : Int) < ((a.getD i F0).books.length : Int)) = false := c5
              have := of_decide_eq_false c5'
              omega
            have heq : a.getD i F0 = b.getD i F0 := by
              have h2 : (a.getD i F0).books = (b.getD i F0).books := by
                rw [hje, List.take_length, c4', List.take_length] at hjab
                exact hjab
              cases ha' : a.getD i F0
              cases hb' : b.getD i F0
              rw [ha', hb'] at c3' h2
              simp at c3' h2
              rw [c3', h2]
            refine SemW.go tyT_ok mixed ?_
            conv => arg 6; whnf
            refine Holds.mk (by first | (simp; done) | (simp; omega) | omega) ?_
            refine SemW.cut ?_ ?_ fresh_nodup rfl rfl (IH' heq)
            · exact ⟨rfl, rfl, incI (by omega), trivial⟩
            · trivial
    · have h1 : i = a.length := by simp at c2; omega
      refine SemW.go tyT_ok mixed ?_
      conv => arg 6; whnf
      refine Holds.mk (by first | (simp; done) | (simp; omega) | omega) ?_
      refine SemW.ret0 tyT_ok func27 rfl rfl rfl ?_
      have : decide (a = b) = true := by
        subst h1
        rw [List.take_length, hlen, List.take_length] at hab
        simp [hab]
      rw [this] at hQ
      exact hQ
end Go.Proofs.Try
set_option linter.unusedVariables false
set_option linter.unusedSimpArgs false
namespace Go.AM
variable {P : Program}
def opdR : List Operand → List Nat → List Nat
  | [], a => a
  | .tmp t :: l, a => opdR l (bif memN a t then a else t :: a)
  | _ :: l, a => opdR l a
def operR (ops : List Oper) (a : List Nat) : List Nat := match ops with
  | [] => a
  | o :: ops => operR ops (opdR o.op.operands.toList a)
def codeR : Code → List Nat → List Nat
  | .region _ ops _, a => operR ops.toList a
  | .seq x y, a => codeR y (codeR x a)
  | .cond c x y, a => codeR y (codeR x (opdR [c] a))
  | .block _ x, a => codeR x a
  | .loop x, a => codeR x a
  | .scope x, a => codeR x a
  | .rangeFunc f _ x y, a => codeR y (codeR x (opdR [f] a))
  | _, a => a
def itemsR (ks : List Item) (a : List Nat) : List Nat := match ks with
  | [] => a
  | .code c :: ks => itemsR ks (codeR c a)
  | .inLoop c :: ks => itemsR ks (codeR c a)
  | .inRegion ops _ :: ks => itemsR ks (operR ops.toList a)
  | _ :: ks => itemsR ks a
def resR (rs : List ResultVar) (a : List Nat) : List Nat := match rs with
  | [] => a
  | .tmp t :: rs => resR rs (bif memN a t then a else t :: a)
  | .cell t _ :: rs => resR rs (bif memN a t then a else t :: a)
def readsR (fn : Func) (ks : List Item) : List Nat := resR fn.results.toList (itemsR ks [])
/-- those of T that are in l, each once -/
def keepT (l : List Nat) (T : Tm) (seen : List Nat) : List Nat := match T with
  | [] => []
  | (t, _) :: T => bif memN seen t then keepT l T seen else bif memN l t then t :: keepT l T (t :: seen) else keepT l T (t :: seen)
def keysB (L : Lh) (seen : List Nat) : List Nat := match L with
  | [] => []
  | (t, _) :: L => bif memN seen t then keysB L seen else t :: keysB L (t :: seen)
def keysT (T : Tm) : List Nat := match T with
  | [] => []
  | (t, _) :: T => t :: keysT T
def minusN (l m : List Nat) : List Nat := match l with
  | [] => []
  | a :: l => bif memN m a then minusN l m else a :: minusN l m
def selTs (T : Tm) : List Nat → Tm
  | [] => []
  | t :: ts => (t, get T t) :: selTs T ts
def selBs (L : Lh) : List Nat → Lh
  | [] => []
  | k :: ks => match getB L k with
    | some b => (k, b) :: selBs L ks
    | none => selBs L ks
theorem get_selTs (T : Tm) : ∀ (l : List Nat) (t : Nat), get (selTs T l) t = .bot ∨ get (selTs T l) t = get T t
  | [], t => .inl rfl
  | u :: l, t => by
    simp only [selTs, get]
    cases hb : Nat.beq u t with
    | true => rw [Nat.eq_of_beq_eq_true hb]; exact .inr rfl
    | false => exact get_selTs T l t
theorem get_app (A B : Tm) (t : Nat) : get (A ++ B) t = if memN (keysT A) t then get A t else get B t := by
  induction A with
  | nil => rfl
  | cons p A ih =>
    obtain ⟨u, v⟩ := p
    simp only [List.cons_append, get, keysT, memN]
    cases hb : Nat.beq u t with
    | true => rfl
    | false => simpa using ih
theorem leTw_app {A B T : Tm} (h : leTw A T) (k : leTw B T) : leTw (A ++ B) T := by
  induction A with
  | nil => exact k
  | cons p A ih =>
    obtain ⟨t, v⟩ := p
    exact ⟨h.1, ih h.2⟩
theorem leTw_sel (T : Tm) : ∀ l, leTw (selTs T l) T
  | [] => trivial
  | _ :: l => ⟨AvLe.refl _, leTw_sel T l⟩
theorem leBw_app {A B L : Lh} (h : leBw A L) (k : leBw B L) : leBw (A ++ B) L := by
  induction A with
  | nil => exact k
  | cons p A ih =>
    obtain ⟨t, v⟩ := p
    exact ⟨h.1, ih h.2⟩
theorem leBw_sel (L : Lh) : ∀ l, leBw (selBs L l) L
  | [] => trivial
  | k :: l => by
    simp only [selBs]
    split
    · rename_i b hb
      exact ⟨⟨b, hb, BlkLe.refl b⟩, leBw_sel L l⟩
    · exact leBw_sel L l
/-- entries as they stand -/
def selTK {α : Type} (T : Tm) (l : List Nat) (k : Tm → α) : α := match l with
  | [] => k []
  | t :: l => getK T t fun v => selTK T l fun T' => k ((t, v) :: T')
theorem selTK_eq {α : Type} (T : Tm) : ∀ (l : List Nat) (k : Tm → α), selTK T l k = k (selTs T l)
  | [], _ => rfl
  | t :: l, k => by simp only [selTK, selTs, getK_eq]; exact selTK_eq T l _
def selBK {α : Type} (L : Lh) (l : List Nat) (k : Lh → α) : α := match l with
  | [] => k []
  | t :: l => getBK L t (selBK L l k) fun b => selBK L l fun L' => k ((t, b) :: L')
theorem selBK_eq {α : Type} (L : Lh) : ∀ (l : List Nat) (k : Lh → α), selBK L l k = k (selBs L l)
  | [], _ => rfl
  | t :: l, k => by
    simp only [selBK, selBs, getBK_eq]
    cases hb : getB L t with
    | none => exact selBK_eq L l k
    | some b => exact selBK_eq L l _
section
variable {fid : FuncId} {fn : Func} {Q : AV → Hp → List Blk → Prop} {h : Hp}
def headK : List Item → Nat
  | .inRegion _ todo :: _ => todo.length + 2
  | .code _ :: _ => 1
  | _ => 0
def sameK (ks ks' : List Item) : Bool := Nat.beq ks.length ks'.length && Nat.beq (headK ks) (headK ks')
def HoldsP (P : Program) (fid : FuncId) (fn : Func) (Q : AV → Hp → List Blk → Prop) (h : Hp) (_ks0 : List Item) (c : Cfg) : Prop := Holds P fid fn Q h c
theorem HoldsP.mk {ks0 ks : List Item} {T : Tm} {L : Lh} {fr : List Nat} {C : Prop} (_hn : sameK ks0 ks = false) (hC : C) (hh : SemW P fid fn Q h ks T L fr) : HoldsP P fid fn Q h ks0 ⟨ks, T, L, fr, C⟩ := ⟨hC, hh⟩
def HoldsDP (P : Program) (fid : FuncId) (fn : Func) (Q : AV → Hp → List Blk → Prop) (ops : Array Oper) (k : List Item) (T0 : Tm) (h : Hp) (_K0 _D0 : List Nat) (c : DC) : Prop := HoldsD P fid fn Q ops k T0 h c
theorem HoldsDP.mk {ops : Array Oper} {k : List Item} {W : Wm} {K D K0 D0 : List Nat} {T0 : Tm} {L : Lh} {fr : List Nat} {C : Prop} (_hn : (Nat.beq K0.length K.length && Nat.beq D0.length D.length) = false) (hC : C) (hh : SemDr P fid fn Q ops k W K D T0 h L fr) : HoldsDP P fid fn Q ops k T0 h K0 D0 ⟨W, K, D, L, fr, C⟩ := ⟨hC, hh⟩
def gcA (fn : Func) (ks : List Item) (T : Tm) (L : Lh) (fr : List Nat) : Cfg :=
  forceN (keepT (readsR fn ks) T []) fun l => selTK T l fun T' => ⟨ks, T', L, fr, True⟩
theorem SemW.gc {ks : List Item} {T : Tm} {L : Lh} {fr : List Nat} (hr : Holds P fid fn Q h (gcA fn ks T L fr)) : SemW P fid fn Q h ks T L fr := by
  unfold gcA at hr
  rw [forceN_eq, selTK_eq] at hr
  exact SemW.eqT (fun t => get_selTs T _ t) hr.2
/-- a loop's rounds: KT, KL stay as they were ahead of it -/
def LoopG (P : Program) (fid : FuncId) (fn : Func) (Q : AV → Hp → List Blk → Prop) (h : Hp) {X : Type} (c : Code) (k : List Item) (V : X → Tm) (B : X → Lh) (m : X → Nat) (KT : Tm) (KL : Lh) (F : List Nat) : Prop :=
  ∀ x, (∀ y, m y < m x → SemW P fid fn Q h (.inLoop c :: k) (V y ++ KT) (B y ++ KL) F) → SemW P fid fn Q h (.code c :: .inLoop c :: k) (V x ++ KT) (B x ++ KL) F
structure LC where
  KT : Tm
  KL : Lh
  F : List Nat
def loopA (fn : Func) (c : Code) (k : List Item) (T0 : Tm) (L0 : Lh) (V0 : Tm) (B0 : Lh) : LC :=
  forceN (minusN (keepT (readsR fn (.inLoop c :: k)) T0 []) (keysT V0)) fun kT => forceN (keysB B0 []) fun kB => forceN (minusN (keysB L0 []) kB) fun kL => forceN (minusN (minusN [0, 1, 2, 3, 4, 5, 6, 7, 8, 9, 10, 11, 12, 13, 14, 15, 16, 17, 18, 19, 20, 21, 22, 23, 24, 25, 26, 27, 28, 29] kB) kL) fun F => selTK T0 kT fun KT => selBK L0 kL fun KL => ⟨KT, KL, F⟩
theorem loopA_eq (fn : Func) (c : Code) (k : List Item) (T0 : Tm) (L0 : Lh) (V0 : Tm) (B0 : Lh) : ∃ lt lb F, loopA fn c k T0 L0 V0 B0 = ⟨selTs T0 lt, selBs L0 lb, F⟩ := by
  unfold loopA
  rw [forceN_eq, forceN_eq, forceN_eq, forceN_eq, selTK_eq, selBK_eq]
  exact ⟨_, _, _, rfl⟩
def LoopC (P : Program) (fid : FuncId) (fn : Func) (Q : AV → Hp → List Blk → Prop) (h : Hp) {X : Type} (c : Code) (k : List Item) (V : X → Tm) (B : X → Lh) (m : X → Nat) (x0 : X) (T0 : Tm) (L0 : Lh) (l : LC) : Prop :=
  leTw (V x0) T0 ∧ leBw (B x0) L0 ∧ l.F.Nodup ∧ avoidT (memN l.F) (V x0 ++ l.KT) = true ∧ avoidB (memN l.F) (B x0 ++ l.KL) = true ∧ LoopG P fid fn Q h c k V B m l.KT l.KL l.F
theorem LoopC.mk {X : Type} {c : Code} {k : List Item} {V : X → Tm} {B : X → Lh} {m : X → Nat} {x0 : X} {T0 : Tm} {L0 : Lh} {KT : Tm} {KL : Lh} {F : List Nat} (sT : leTw (V x0) T0) (sL : leBw (B x0) L0) (hF : F.Nodup) (aT : avoidT (memN F) (V x0 ++ KT) = true) (aL : avoidB (memN F) (B x0 ++ KL) = true)
    (hh : LoopG P fid fn Q h c k V B m KT KL F) : LoopC P fid fn Q h c k V B m x0 T0 L0 ⟨KT, KL, F⟩ := ⟨sT, sL, hF, aT, aL, hh⟩
theorem SemW.loopG {X : Type} {c : Code} {k : List Item} {T0 : Tm} {L0 : Lh} {F0 : List Nat} (V : X → Tm) (B : X → Lh) (m : X → Nat) (x0 : X)
    (hr : LoopC P fid fn Q h c k V B m x0 T0 L0 (loopA fn c k T0 L0 (V x0) (B x0))) : SemW P fid fn Q h (.code (.loop c) :: k) T0 L0 F0 := by
  obtain ⟨lt, lb, F, e⟩ := loopA_eq fn c k T0 L0 (V x0) (B x0)
  rw [e] at hr
  obtain ⟨sT, sL, hF, aT, aL, round⟩ := hr
  exact SemW.loop (fun x => V x ++ selTs T0 lt) (fun x => B x ++ selBs L0 lb) (fun _ => F) m x0
    (fun hh => SemW.cutW (leTw_app sT (leTw_sel _ _)) (leBw_app sL (leBw_sel _ _)) hF aT aL hh) round
theorem leTw_eq {K T : Tm} (h : selTs T (keysT K) = K) : leTw K T := by rw [← h]; exact leTw_sel _ _
def keysL : Lh → List Nat
  | [] => []
  | (t, _) :: L => t :: keysL L
theorem leBw_eq {K L : Lh} (h : selBs L (keysL K) = K) : leBw K L := by rw [← h]; exact leBw_sel _ _
/-- back to the loop's head, or to any place that is told in that way -/
theorem SemW.back {ks : List Item} {F fr : List Nat} {T KT V : Tm} {L KL B : Lh} (hh : SemW P fid fn Q h ks (V ++ KT) (B ++ KL) F) (hT : leTw V T) (hL : leBw B L) (ekT : selTs T (keysT KT) = KT) (ekL : selBs L (keysL KL) = KL) (hF : F.Nodup) (aT : avoidT (memN F) (V ++ KT) = true) (aL : avoidB (memN F) (B ++ KL) = true) : SemW P fid fn Q h ks T L fr :=
  SemW.cutW (leTw_app hT (leTw_eq ekT)) (leBw_app hL (leBw_eq ekL)) hF aT aL hh
def frzTs (k : Nat) (b : Blk) : Tm → Tm
  | [] => []
  | (t, v) :: T => (t, v.frz k b) :: frzTs k b T
def frzTC (k n g : Nat) : Tm → Prop → Prop
  | [], C => C
  | (_, v) :: T, C => v.frzC k n g ∧ frzTC k n g T C
def frzBs (k : Nat) (b : Blk) : Lh → Lh
  | [] => []
  | (q, c) :: L => bif Nat.beq q k then frzBs k b L else match c with
    | .obj cs => (q, .obj (frzL k b cs)) :: frzBs k b L
    | .arr ag g c n f => (q, .arr ag g c n f) :: frzBs k b L
def frzBC (k n g : Nat) : Lh → Prop → Prop
  | [], C => C
  | (_, c) :: L, C => match c with
    | .obj cs => frzLC k n g cs ∧ frzBC k n g L C
    | .arr .. => frzBC k n g L C
mutual
theorem frz_free (k : Nat) (b : Blk) : ∀ a : AV, a.idFree = true → a.frz k b = a
  | .bot, _ => rfl
  | .val _, _ => rfl
  | .agg cs, h => by rw [AV.frz, frzL_free k b cs h]
  | .tup cs, h => by rw [AV.frz, frzL_free k b cs h]
  | .fn _ cs, h => by rw [AV.frz, frzL_free k b cs h]
  | .vp _ _ _ _, _ => rfl
  | .vs _ _ _ _, _ => rfl
  | .ptr _ _, h => by simp [AV.idFree] at h
  | .eptr _ _ _ _ _, h => by simp [AV.idFree] at h
  | .sl _ _ _ _ _ _, h => by simp [AV.idFree] at h
theorem frzL_free (k : Nat) (b : Blk) : ∀ l : List AV, idFreeL l = true → frzL k b l = l
  | [], _ => rfl
  | a :: l, h => by
    simp only [idFreeL, Bool.and_eq_true] at h
    rw [frzL, frz_free k b a h.1, frzL_free k b l h.2]
end
mutual
theorem frzC_free (k n g : Nat) : ∀ a : AV, a.idFree = true → a.frzC k n g
  | .bot, _ => trivial
  | .val _, _ => trivial
  | .agg cs, h => by rw [AV.frzC]; exact frzLC_free k n g cs h
  | .tup cs, h => by rw [AV.frzC]; exact frzLC_free k n g cs h
  | .fn _ cs, h => by rw [AV.frzC]; exact frzLC_free k n g cs h
  | .vp _ _ _ _, _ => trivial
  | .vs _ _ _ _, _ => trivial
  | .ptr _ _, h => by simp [AV.idFree] at h
  | .eptr _ _ _ _ _, h => by simp [AV.idFree] at h
  | .sl _ _ _ _ _ _, h => by simp [AV.idFree] at h
theorem frzLC_free (k n g : Nat) : ∀ l : List AV, idFreeL l = true → frzLC k n g l
  | [], _ => trivial
  | a :: l, h => by
    simp only [idFreeL, Bool.and_eq_true] at h
    exact ⟨frzC_free k n g a h.1, frzLC_free k n g l h.2⟩
end
def forceV {α : Type} (v : AV) (k : AV → α) : α := match v with
  | .bot => k .bot
  | .val v => k (.val v)
  | .agg cs => k (.agg cs)
  | .tup cs => k (.tup cs)
  | .fn f cs => k (.fn f cs)
  | .ptr id o => k (.ptr id o)
  | .eptr id g c i o => k (.eptr id g c i o)
  | .vp ag c x o => k (.vp ag c x o)
  | .sl id g c off len cp => k (.sl id g c off len cp)
  | .vs ag c n f => k (.vs ag c n f)
theorem forceV_eq {α : Type} (v : AV) (k : AV → α) : forceV v k = k v := by cases v <;> rfl
/-- what is left as it is where no name is in it -/
def frzVK {α : Type} (k : Nat) (b : Blk) (v : AV) (kk : AV → Prop → α) : α := match v.idFree with
  | true => kk v True
  | false => forceV (v.frz k b) fun v' => kk v' (v.frzC k b.num b.gen)
def frzTK {α : Type} (k : Nat) (b : Blk) (T : Tm) (C : Prop) (kk : Tm → Prop → α) : α := match T with
  | [] => kk [] C
  | (t, v) :: T => frzVK k b v fun v' c => frzTK k b T (c ∧ C) fun T' C' => kk ((t, v') :: T') C'
theorem frzVK_eq {α : Type} (k : Nat) (b : Blk) (v : AV) (kk : AV → Prop → α) : ∃ C, frzVK k b v kk = kk (v.frz k b) C ∧ (C → v.frzC k b.num b.gen) := by
  unfold frzVK
  cases hf : v.idFree with
  | true => exact ⟨True, by simp only [frz_free k b v hf], fun _ => frzC_free k _ _ v hf⟩
  | false => exact ⟨_, by simp only [forceV_eq], fun h => h⟩
theorem frzTK_eq {α : Type} (k : Nat) (b : Blk) : ∀ (T : Tm) (C : Prop) (kk : Tm → Prop → α), ∃ C', frzTK k b T C kk = kk (frzTs k b T) C' ∧ (C' → frzTC k b.num b.gen T C)
  | [], C, kk => ⟨C, rfl, fun h => h⟩
  | (t, v) :: T, C, kk => by
    obtain ⟨c, e, hc⟩ := frzVK_eq k b v (fun v' c => frzTK k b T (c ∧ C) fun T' C' => kk ((t, v') :: T') C')
    obtain ⟨C', e2, h2⟩ := frzTK_eq k b T (c ∧ C) (fun T' C' => kk ((t, v.frz k b) :: T') C')
    refine ⟨C', by simp only [frzTK]; rw [e, e2]; rfl, fun h => ?_⟩
    have key : ∀ {T : Tm} {A B : Prop}, (A → B) → frzTC k b.num b.gen T A → frzTC k b.num b.gen T B := by
      intro T
      induction T with
      | nil => intro A B f x; exact f x
      | cons p T ih => intro A B f x; exact ⟨x.1, ih f x.2⟩
    have and2 : ∀ {T : Tm} {A B : Prop}, frzTC k b.num b.gen T (A ∧ B) → A := by
      intro T
      induction T with
      | nil => intro A B x; exact x.1
      | cons p T ih => intro A B x; exact ih x.2
    exact ⟨hc (and2 (h2 h)), key (fun x => x.2) (h2 h)⟩
def frzA (fn : Func) (k : Nat) (ks : List Item) (T : Tm) (L : Lh) (fr : List Nat) : Cfg := getBK L k ⟨ks, T, L, fr, True⟩ fun b => match b.idFree with
  | false => ⟨ks, T, L, fr, True⟩
  | true => forceN (keepT (readsR fn ks) T []) fun l => forceN (minusN (keysB L []) [k]) fun lb => selTK T l fun T1 => selBK L lb fun L1 => frzTK k b T1 (frzBC k b.num b.gen L1 True) fun T' C => forceL (frzBs k b L1) fun L' => ⟨ks, T', L', fr, C⟩
theorem frzTs_ok {k : Nat} {b : Blk} {T0 : Tm} {C : Prop} : ∀ {l : List Nat}, frzTC k b.num b.gen (selTs T0 l) C → C ∧ frzT k b (frzTs k b (selTs T0 l)) T0
  | [], hc => ⟨hc, trivial⟩
  | t :: l, hc => by
    obtain ⟨h1, h2⟩ := hc
    obtain ⟨h3, h4⟩ := frzTs_ok h2
    exact ⟨h3, rfl, h1, h4⟩
theorem frzBs_ok {k : Nat} {b : Blk} {L0 : Lh} {C : Prop} : ∀ {l : List Nat}, k ∉ l → frzBC k b.num b.gen (selBs L0 l) C → C ∧ frzB k b (frzBs k b (selBs L0 l)) L0
  | [], _, hc => ⟨hc, trivial⟩
  | q :: l, hk, hc => by
    have hq : q ≠ k := fun e => hk (by rw [e]; exact List.mem_cons_self)
    have hl : k ∉ l := fun e => hk (List.mem_cons_of_mem _ e)
    simp only [selBs] at hc ⊢
    cases hb : getB L0 q with
    | none =>
      simp only [hb] at hc
      exact frzBs_ok hl hc
    | some c =>
      simp only [hb] at hc
      have hbeq : Nat.beq q k = false := by
        cases hx : Nat.beq q k with
        | false => rfl
        | true => exact absurd (Nat.eq_of_beq_eq_true hx) hq
      simp only [frzBs, hbeq, cond_false]
      cases c with
      | obj cs =>
        obtain ⟨h1, h2⟩ := hc
        obtain ⟨h3, h4⟩ := frzBs_ok hl h2
        refine ⟨h3, ?_⟩
        refine ⟨hbeq, ?_, h4⟩
        rw [hb]
        exact ⟨rfl, h1⟩
      | arr ag g c n f =>
        obtain ⟨h3, h4⟩ := frzBs_ok hl hc
        refine ⟨h3, ?_⟩
        refine ⟨hbeq, ?_, h4⟩
        rw [hb]
theorem mem_minusN {m : List Nat} : ∀ {l : List Nat} {a : Nat}, a ∈ minusN l m → a ∈ l ∧ a ∉ m
  | b :: l, a, ha => by
    simp only [minusN] at ha
    cases hb : memN m b with
    | true => rw [hb] at ha; have := mem_minusN ha; exact ⟨List.mem_cons_of_mem _ this.1, this.2⟩
    | false =>
      rw [hb] at ha
      rcases List.mem_cons.1 ha with e | e
      · subst e; exact ⟨List.mem_cons_self, not_memN hb⟩
      · have := mem_minusN e; exact ⟨List.mem_cons_of_mem _ this.1, this.2⟩
theorem SemW.frzA (k : Nat) {ks : List Item} {T : Tm} {L : Lh} {fr : List Nat} (hr : Holds P fid fn Q h (AM.frzA fn k ks T L fr)) : SemW P fid fn Q h ks T L fr := by
  unfold AM.frzA at hr
  rw [getBK_eq] at hr
  split at hr
  · rename_i b hb
    split at hr
    · exact hr.2
    · rename_i hf
      rw [forceN_eq, forceN_eq, selTK_eq, selBK_eq] at hr
      obtain ⟨C', e, hC⟩ := frzTK_eq k b (selTs T (keepT (readsR fn ks) T [])) (frzBC k b.num b.gen (selBs L (minusN (keysB L []) [k])) True) (fun T' C => forceL (frzBs k b (selBs L (minusN (keysB L []) [k]))) fun L' => (⟨ks, T', L', fr, C⟩ : Cfg))
      rw [e, forceL_eq] at hr
      obtain ⟨h1, h2⟩ := hr
      obtain ⟨h3, h4⟩ := frzTs_ok (hC h1)
      obtain ⟨_, h5⟩ := frzBs_ok (fun e => (mem_minusN e).2 (List.mem_singleton.2 rfl)) h3
      exact SemW.frz k hb hf h4 h5 h2
  · exact hr.2
def zipT : List AV → List Nat → Tm
  | a :: l, n :: m => (n, a) :: zipT l m
  | _, _ => []
abbrev lits : List Nat := [0, 1, 2, 3, 4, 5, 6, 7, 8, 9, 10, 11, 12, 13, 14, 15, 16, 17, 18, 19]
theorem SemW.tellT {ks : List Item} {T : Tm} {L : Lh} {fr : List Nat} (V : Tm) (hT : leTw V T) (hh : SemW P fid fn Q h ks (V ++ T) L fr) : SemW P fid fn Q h ks T L fr := by
  intro E ι a w b cs q1 q2 q3 q4 q5 q6 q7 q8
  refine hh E ι a w b cs q1 q2 q3 q4 (fun t => ?_) q6 q7 q8
  rw [get_app]
  split
  · exact leTw_get hT t E ι _ (q5 t)
  · exact q5 t
theorem getB_app (A B : Lh) (t : Nat) : getB (A ++ B) t = match getB A t with | some b => some b | none => getB B t := by
  induction A with
  | nil => rfl
  | cons p A ih =>
    obtain ⟨u, v⟩ := p
    simp only [List.cons_append, getB]
    cases hb : Nat.beq u t with
    | true => rfl
    | false => exact ih
theorem SemW.tellB {ks : List Item} {T : Tm} {L : Lh} {fr : List Nat} (B : Lh) (hL : leBw B L) (hh : SemW P fid fn Q h ks T (B ++ L) fr) : SemW P fid fn Q h ks T L fr := by
  intro E ι a w b cs q1 q2 q3 q4 q5 q6 q7 q8
  refine hh E ι a w b cs q1 q2 q3 q4 q5 ?_ q7 q8
  have key : ∀ k b, getB (B ++ L) k = some b → ∃ b0, getB L k = some b0 ∧ BlkLe b0 b := by
    intro k b hb
    rw [getB_app] at hb
    cases hB : getB B k with
    | some c =>
      rw [hB] at hb
      cases hb
      exact leBw_get hL k _ hB
    | none => rw [hB] at hb; exact ⟨b, hb, BlkLe.refl b⟩
  have keyp : ∀ i b, hp h (B ++ L) i = some b → ∃ b0, hp h L i = some b0 ∧ BlkLe b0 b := by
    intro i b hb
    cases i with
    | l k => exact key k b hb
    | o i => exact ⟨b, hb, BlkLe.refl b⟩
    | n j => simp [hp] at hb
  exact ⟨q6.kept, q6.os, q6.tape, q6.output, fun i b hb => by obtain ⟨b0, h1, h2⟩ := keyp i b hb; exact h2 _ _ _ _ (q6.ok i b0 h1),
    fun i i' b b' q hb hb' hne p1 p2 => by obtain ⟨b0, h1, _⟩ := keyp i b hb; obtain ⟨b1, h2, _⟩ := keyp i' b' hb'; exact q6.apart i i' b0 b1 q h1 h2 hne p1 p2,
    fun i b q hb p hk => by obtain ⟨b0, h1, _⟩ := keyp i b hb; exact q6.own i b0 q h1 p hk⟩
theorem SemW.entT {ks : List Item} {L : Lh} {fr : List Nat} {args : List AV} (he : argT (renL .o args) 0 = zipT args lits) (hh : SemW P fid fn Q h ks (zipT args lits) L fr) : SemW P fid fn Q h ks (argT (renL .o args) 0) L fr := by rw [he]; exact hh
end
end Go.AM
set_option linter.unusedVariables false
set_option linter.unusedSimpArgs false
namespace Go.AM
variable {P : Program}
abbrev noH : Hp := fun _ => none
theorem hp_noH {h : Hp} {L : Lh} {i : Id} {b : Blk} (hb : hp noH L i = some b) : hp h L i = some b ∧ ∃ k, i = .l k := by
  cases i with
  | l k => exact ⟨hb, k, rfl⟩
  | o i => simp [hp] at hb
  | n j => simp [hp] at hb
theorem Den.sub {E : Env} {ι : Io} {h h2 : Hp} {w : World} (d : Den E ι h w) (hs : ∀ i b, h2 i = some b → h i = some b) : Den E ι h2 w :=
  ⟨d.kept, d.os, d.tape, d.output, fun i b hb => d.ok i b (hs i b hb), fun i i' b b' k hb hb' => d.apart i i' b b' k (hs i b hb) (hs i' b' hb'), fun i b k hb => d.own i b k (hs i b hb)⟩
/-- with one's own blocks as ones that stay: the caller's are as they were -/
theorem Den.lentL {E : Env} {ι : Io} {h : Hp} {L : Lh} {w : World} (d : Den E ι (hp h L) w) : Den (lentE E ι (hp noH L) w) ι (hp h []) w := by
  have hle : E.le (lentE E ι (hp noH L) w) := lentE_le (d.sub fun i b hb => (hp_noH hb).1)
  have old : ∀ i b, hp h [] i = some b → hp h L i = some b ∧ ∃ j, i = .o j := by
    intro i b hb
    cases i with
    | l k => simp [hp, getB] at hb
    | o i => exact ⟨hb, i, rfl⟩
    | n j => simp [hp] at hb
  constructor
  · intro k hk
    refine ⟨rfl, ?_⟩
    rcases hk with hk | ⟨id, b, h1, h2⟩
    · exact d.keep_lt hk
    · exact d.lt (hp_noH h1).1 h2
  · rfl
  · rfl
  · rfl
  · intro i b hb
    exact (d.ok i b (old i b hb).1).mono hle (Io.le.refl ι) rfl (fun _ _ => rfl)
  · intro i i' b b' k hb hb' hne p1 p2
    exact d.apart i i' b b' k (old i b hb).1 (old i' b' hb').1 hne p1 p2
  · intro i b k hb p hk
    obtain ⟨h1, j, rfl⟩ := old i b hb
    rcases hk with hk | ⟨id, b', h2, h3⟩
    · exact d.own _ b k h1 p hk
    · obtain ⟨h4, q, rfl⟩ := hp_noH h2
      exact d.apart _ _ b b' k h1 h4 (by simp) p h3
/-- a call's own names are forgotten -/
theorem Den.leave {E : Env} {ι : Io} {h : Hp} {w : World} (q6 : Den E ι (hp h []) w) (q8 : ∀ j, ι (.n j) = []) : Den E (fun i => match i with | .o i => ι (.o i) | _ => []) (hpN h []) w := by
  refine q6.rename (fun i => i) (fun i b hb => ?_) (fun i i' b b' _ _ e => e)
  cases i with
  | n j => simp [hpN] at hb
  | l k => simp [hpN] at hb
  | o i =>
    refine ⟨b, hb, rfl, ?_⟩
    have hb' := hb
    simp only [hpN, Option.map_eq_some_iff] at hb'
    obtain ⟨b0, hb0, rfl⟩ := hb'
    have back : ∀ {a : AV} {v : Value}, Rel E ι (a.ren .o) v → Rel E (fun i => match i with | .o i => ι (.o i) | _ => []) (a.ren .o) v := by
      intro a v hx
      have := hx.ren (ι' := fun i => match i with | .o i => ι (.o i) | _ => []) (fun i => i) (fun _ => true) (fun id g loc hp hh => by
        cases id with
        | o i => exact hh
        | l k => exact absurd (hp k rfl) (by simp)
        | n j => rw [q8 j] at hh; simp at hh) ((avoid_ren (fun _ => true)).1 a)
      rwa [AV.ren_id _ (fun _ => rfl)] at this
    have := q6.ok (.o i) _ hb
    cases b0 with
    | obj cs =>
      obtain ⟨loc, vs, g1, g2, g3, g4, g5⟩ := this
      refine ⟨loc, vs, g1, g2, g3, g4, fun i hi => ?_⟩
      have := g5 i hi
      rw [renL_getD] at this ⊢
      exact back this
    | arr ag g c n f => exact this
section
variable {fid : FuncId} {fn : Func} {Q : AV → Hp → List Blk → Prop} {h : Hp}
/-- A return: rows of one's own that are handed back stay as they are from here on. -/
theorem SemW.retV {ty : TypeId → TI} (hty : TyOk P ty) (hf : P.funcs[fid]? = some fn) {ks : List Item} {T : Tm} {L : Lh} {fr : List Nat} {r r0 : AV} (hk : atRet ks = true) (hr : retOf ty fn T L = some r)
    (hQ : Q r0 h []) (hC : r.viewC (hp noH L)) (hA : AvLe (r.view (hp noH L)) r0) : SemW P fid fn Q h ks T L fr := by
  intro E ι a w b cs q1 q2 q3 q4 q5 q6 q7 q8
  obtain ⟨v, hv, hrel⟩ := retOf_sound hty hr q5 q6
  have hsteps : ∃ todo, Steps P (lone (b.at a ks) cs w) (lone { b.at a todo with mode := .returning } cs w) := by
    unfold atRet at hk
    split at hk
    · exact ⟨_, .one step_end⟩
    · exact ⟨_, .one step_ret⟩
    · cases hk
  obtain ⟨todo, hs⟩ := hsteps
  refine ⟨w, _, v, hs, q1, ⟨rfl, q3, q2, fn, by rw [← hf, ← q1]; rfl, hv⟩, ?_⟩
  have dn : Den E ι (hp noH L) w := q6.sub fun i b hb => (hp_noH hb).1
  have d2 := q6.lentL.leave q8
  refine ⟨lentE E ι (hp noH L) w, fun i => match i with | .o i => ι (.o i) | _ => [], r0, h, [], lentE_le dn, fun i g l x => x, fun i x => x, fun k => rfl, fun j hj => rfl, d2, ?_, hQ⟩
  have := Rel.view dn hrel hC
  exact hA _ _ _ (this.mono (Env.le.refl _) (fun id g loc hh => by simp at hh))
/-- the same, where the call began by SemC.enter -/
theorem SemW.retD {Q : AV → Hp → List Blk → Prop} {ty : TypeId → TI} (hty : TyOk P ty) (hf : P.funcs[fid]? = some fn) {ks : List Item} {T : Tm} {L : Lh} {fr : List Nat} {r r0 : AV} (hk : atRet ks = true) (hr : retOf ty fn T L = some r)
    (hQ : Q r0 h []) (hd : r0.ren down = r0) (hC : r.viewC (hp noH L)) (hA : AvLe (r.view (hp noH L)) r0) : SemW P fid fn (fun r h' N => Q (r.ren down) h' (N.map (Blk.ren down))) h ks T L fr :=
  SemW.retV hty hf hk hr (r0 := r0) (by rw [hd]; exact hQ) hC hA
end
end Go.AM
