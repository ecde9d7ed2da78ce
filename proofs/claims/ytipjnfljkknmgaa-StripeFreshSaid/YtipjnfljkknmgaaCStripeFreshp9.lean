/- Part 9 of the proof of the row StripeFresh: written for this claim by the session and by a program of its own. -/
import Derived.Test.YtipjnfljkknmgaaCStripeFreshp8
set_option linter.unusedVariables false
set_option linter.unusedSimpArgs false
open Go Go.AM
namespace Go.Proofs.Try
set_option maxRecDepth 100000
set_option maxHeartbeats 4000000
theorem cloneOwn_spec (l : List Pl) (h : Hp) (Q : AV → Hp → List Blk → Prop) (hl : l.length < 2^40) (hQ : ∀ g cp, l.length ≤ cp → Q (.sl (.n 0) g 2 0 l.length cp) h [.arr true g 2 l.length (fun i => encP (l.getD i ⟨0, 0⟩))]) : SemC Try.prog 44 [sP l] h Q := by
  refine SemC.enter func44 rfl (Nat.le_of_ble_eq_true rfl) fresh fresh_nodup ?_
  refine SemW.go tyT_ok mixed ?_
  conv => arg 6; whnf
  refine Holds.mk (by simp) ?_
  refine SemW.eqNil tyT_ok rfl rfl fun b hb => ?_
  refine SemW.go tyT_ok mixed ?_
  conv => arg 6; whnf
  refine Holds.mk (by simp) ?_
  refine SemW.cond rfl (fun c1 => ?_) (fun c1 => ?_)
  · have hl0 : l = [] := by simpa using hb c1
    subst hl0
    refine SemW.go tyT_ok mixed ?_
    conv => arg 6; whnf
    refine Holds.mk (by simp) ?_
    refine SemW.nilRow (t := 2) true 2 (fun i => encP (([] : List Pl).getD i ⟨0, 0⟩)) rfl ?_
    refine SemW.ret tyT_ok func44 [0] rfl rfl rfl (by decide) rfl rfl ?_
    exact hQ 0 0 (Nat.le_refl _)
  · refine SemW.go tyT_ok mixed ?_
    conv => arg 6; whnf
    refine Holds.mk ((by simp; omega)) ?_
    refine SemW.weak (T' := [(2, .sl (.l 0) 1 2 0 l.length l.length)]) (L' := [(0, .arr true 1 2 l.length (fun i => encP (l.getD i ⟨0, 0⟩)))]) ⟨AvLe.sl (by omega) (Nat.le_refl _) (by omega), trivial⟩ ⟨⟨_, rfl, BlkLe.arr (by omega) (fun j _ => by simp [blt_zero])⟩, trivial⟩ ?_
    refine SemW.ret tyT_ok func44 [0] rfl rfl rfl (by decide) rfl rfl ?_
    exact hQ 1 l.length (Nat.le_refl _)
/-- is a node another one's but at k? -/
def otherB (b : List Pl) (k : Int) (x : Pl) (n : Nat) : Bool := (List.range n).any fun i => (!((i : Int) == k)) && ((b.getD i P0).node == x.node)
def swapF (f : Fr) (old x : Pl) : Fr × Bool :=
  if otherB f.books (idxF f.books (· == old)) x f.books.length then (F0, false) else if idxF f.books (· == old) < 0 then (F0, false) else (⟨f.first, f.books.set (idxF f.books (· == old)).toNat x⟩, true)
theorem swap_spec (fi : Int) (bk : List Pl) (old x : Pl) (h : Hp) (Q : AV → Hp → List Blk → Prop) (hl : bk.length < 2^40) (hQ : Q (.tup [encF (swapF ⟨fi, bk⟩ old x).1, abool (swapF ⟨fi, bk⟩ old x).2]) h []) : SemC Try.prog 25 [encF ⟨fi, bk⟩, encP old, encP x] h Q := by
  refine SemC.enter func25 rfl (Nat.le_of_ble_eq_true rfl) fresh fresh_nodup ?_
  refine SemW.go tyT_ok mixed ?_
  conv => arg 6; whnf
  refine Holds.mk (by simp) ?_
  refine SemW.call0 rfl rfl func43 rfl rfl ?_
  refine index_spec bk old _ _ (by omega) ⟨rfl, rfl, _, rfl, rfl, rfl, ?_⟩
  have hk : idxF bk (· == old) < bk.length ∧ -1 ≤ idxF bk (· == old) := by
    unfold idxF
    split <;> omega
  unfold swapF at hQ
  dsimp only at hQ
  generalize idxF bk (· == old) = k at *
  refine SemW.go tyT_ok mixed ?_
  conv => arg 6; whnf
  refine Holds.mk (by simp) ?_
  refine SemW.loop (X := {i : Nat // i ≤ bk.length ∧ otherB bk k x i = false}) (fun i => [(3, .ptr (.l 0) 0), (5, .ptr (.l 2) 0), (6, .ptr (.l 3) 0), (7, abool false), (8, aint k), (16, sP bk), (17, aint bk.length), (18, aint i.1)]) (fun _ => [(3, .obj [.val (.int .u64 0), nilS]), (2, .obj [.val (.int .i64 x.node), .val (.int .u64 x.serial)]), (0, .obj [.val (.int .u64 fi), sP bk])]) (fun _ => [1, 4, 5, 6, 7]) (fun i => bk.length - i.1) ⟨0, Nat.zero_le _, rfl⟩
    (SemW.cut ⟨rfl, rfl, rfl, rfl, rfl, rfl, rfl, rfl, trivial⟩ ⟨rfl, rfl, rfl, trivial⟩ (by decide) rfl rfl) (fun ⟨i, hi, ha⟩ IH => ?_)
  dsimp only at hi ha IH ⊢
  have step := fun (hf : ((!((i : Int) == k)) && ((bk.getD i P0).node == x.node)) = false) (hil : i < bk.length) => IH ⟨i + 1, hil, any_succ ha hf⟩ (by show bk.length - (i + 1) < bk.length - i; omega)
  refine SemW.go tyT_ok mixed ?_
  conv => arg 6; whnf
  refine Holds.mk (by simp) ?_
  refine SemW.cond rfl (fun c1 => ?_) (fun c1 => ?_)
  · have hil : i < bk.length := by simpa using c1
    refine SemW.go tyT_ok mixed ?_
    conv => arg 6; whnf
    refine Holds.mk ((by simp; omega)) ?_
    refine SemW.split (fun c2 => ?_) (fun c2 => ?_)
    · have c2' : (!((i : Int) == k)) = true := c2
      refine SemW.go tyT_ok mixed ?_
      conv => arg 6; whnf
      refine Holds.mk (by simp) ?_
      refine SemW.cond rfl (fun c3 => ?_) (fun c3 => ?_)
      · have hT : otherB bk k x bk.length = true := any_true hil (by rw [c2', Bool.true_and]; exact c3)
        rw [hT, if_pos rfl] at hQ
        refine SemW.go tyT_ok mixed ?_
        conv => arg 6; whnf
        refine Holds.mk (by simp) ?_
        refine SemW.weak (T' := [(6, .ptr (.l 3) 0), (7, abool false)]) (L' := [(3, .obj [.val (.int .u64 0), sP []])]) ⟨AvLe.refl _, AvLe.refl _, trivial⟩ ⟨⟨_, rfl, BlkLe.obj ⟨AvLe.refl _, AvLe.nil _ _ _ _, trivial⟩⟩, trivial⟩ ?_
        refine SemW.ret0 tyT_ok func25 rfl rfl rfl ?_
        exact hQ
      · refine SemW.go tyT_ok mixed ?_
        conv => arg 6; whnf
        refine Holds.mk (by simp) ?_
        refine SemW.cut ?_ ?_ (by decide) rfl rfl (step (by rw [c2', Bool.true_and]; exact c3) hil)
        · exact ⟨rfl, rfl, rfl, rfl, rfl, rfl, rfl, incI (by omega), trivial⟩
        · exact ⟨rfl, rfl, rfl, trivial⟩
    · have c2' : (!((i : Int) == k)) = false := c2
      refine SemW.go tyT_ok mixed ?_
      conv => arg 6; whnf
      refine Holds.mk (by simp) ?_
      refine SemW.condF rfl ?_
      refine SemW.go tyT_ok mixed ?_
      conv => arg 6; whnf
      refine Holds.mk (by simp) ?_
      refine SemW.cut ?_ ?_ (by decide) rfl rfl (step (by rw [c2']; rfl) hil)
      · exact ⟨rfl, rfl, rfl, rfl, rfl, rfl, rfl, incI (by omega), trivial⟩
      · exact ⟨rfl, rfl, rfl, trivial⟩
  · obtain rfl : i = bk.length := by simp at c1; omega
    rw [ha, if_neg (by simp)] at hQ
    refine SemW.go tyT_ok mixed ?_
    conv => arg 6; whnf
    refine Holds.mk (by simp) ?_
    refine SemW.cond rfl (fun c4 => ?_) (fun c4 => ?_)
    · rw [if_pos (by simpa using c4)] at hQ
      refine SemW.go tyT_ok mixed ?_
      conv => arg 6; whnf
      refine Holds.mk (by simp) ?_
      refine SemW.weak (T' := [(6, .ptr (.l 3) 0), (7, abool false)]) (L' := [(3, .obj [.val (.int .u64 0), sP []])]) ⟨AvLe.refl _, AvLe.refl _, trivial⟩ ⟨⟨_, rfl, BlkLe.obj ⟨AvLe.refl _, AvLe.nil _ _ _ _, trivial⟩⟩, trivial⟩ ?_
      refine SemW.ret0 tyT_ok func25 rfl rfl rfl ?_
      exact hQ
    · have hk0 : ¬ k < 0 := by simpa using c4
      rw [if_neg hk0] at hQ
      refine SemW.go tyT_ok mixed ?_
      conv => arg 6; whnf
      refine Holds.mk (by simp) ?_
      refine SemW.call rfl rfl func44 rfl rfl ?_
      refine cloneOwn_spec bk _ _ hl fun g cp hcp => ⟨h, _, rfl, Nat.le_of_ble_eq_true rfl, ?_⟩
      refine SemW.go tyT_ok mixed ?_
      conv => arg 6; whnf
      refine Holds.mk ((by simp; omega)) ?_
      obtain ⟨kn, rfl⟩ : ∃ m : Nat, k = m := ⟨k.toNat, by omega⟩
      refine SemW.frzW (T' := [(6, .ptr (.l 3) 0), (7, abool true)]) (L' := [(3, .obj [.val (.int .u64 fi), .vs true 2 bk.length _])]) 1 rfl rfl ⟨AvLe.refl _, trivial, AvLe.refl _, trivial, trivial⟩ ⟨rfl, ⟨rfl, trivial, ⟨Nat.le_of_eq (Nat.zero_add _), rfl⟩, trivial⟩, trivial⟩ ?_
      refine SemW.weak (T' := [(6, .ptr (.l 3) 0), (7, abool true)]) (L' := [(3, .obj [.val (.int .u64 fi), sP (bk.set kn x)])]) ⟨AvLe.refl _, AvLe.refl _, trivial⟩ ⟨⟨_, rfl, BlkLe.obj ⟨AvLe.refl _, AvLe.sP (by simp) (fun j hj => ?_), trivial⟩⟩, trivial⟩ ?_
      · simp only [Nat.zero_add, Int.toNat_natCast]
        cases hb : Nat.beq j kn with
        | true =>
          have e := Nat.eq_of_beq_eq_true hb
          subst e
          have : (bk.set j x).getD j ⟨0, 0⟩ = x := by simp [hj]
          rw [this]
          rfl
        | false =>
          have e : kn ≠ j := fun e => by subst e; simp at hb
          have : (bk.set kn x).getD j ⟨0, 0⟩ = bk.getD j ⟨0, 0⟩ := by simp [List.getElem?_set_ne e]
          rw [this]
          rfl
      · rw [Int.toNat_natCast] at hQ
        refine SemW.ret0 tyT_ok func25 rfl rfl rfl ?_
        exact hQ
def replacedF (f : Fr) (old : Pl) : List Pl → Fr × Bool
  | [] => (f, false)
  | x :: l => if (swapF f old x).2 then ((swapF f old x).1, true) else replacedF f old l
theorem replacedF_drop {f : Fr} {old : Pl} {l : List Pl} {i : Nat} (h : i < l.length) : replacedF f old (l.drop i) = if (swapF f old (l.getD i P0)).2 then ((swapF f old (l.getD i P0)).1, true) else replacedF f old (l.drop (i + 1)) := by
  rw [List.drop_eq_getElem_cons h, replacedF]
  simp [h]
theorem replaced_spec (fi : Int) (bk : List Pl) (old : Pl) (l : List Pl) (h : Hp) (Q : AV → Hp → List Blk → Prop) (hb : bk.length < 2^40) (hl : l.length < 2^62) (hQ : Q (.tup [encF (replacedF ⟨fi, bk⟩ old l).1, abool (replacedF ⟨fi, bk⟩ old l).2]) h []) : SemC Try.prog 48 [encF ⟨fi, bk⟩, encP old, sP l] h Q := by
  refine SemC.enter func48 rfl (Nat.le_of_ble_eq_true rfl) fresh fresh_nodup ?_
  refine SemW.go tyT_ok mixed ?_
  conv => arg 6; whnf
  refine Holds.mk (by simp) ?_
  refine SemW.loop (X := {i : Nat // i ≤ l.length ∧ replacedF ⟨fi, bk⟩ old l = replacedF ⟨fi, bk⟩ old (l.drop i)}) (fun i => [(3, .ptr (.l 0) 0), (4, .ptr (.l 1) 0), (6, .ptr (.l 2) 0), (7, abool false), (12, sP l), (13, aint l.length), (14, aint i.1)]) (fun _ => [(2, .obj [.val (.int .u64 0), nilS]), (1, .obj [.val (.int .i64 old.node), .val (.int .u64 old.serial)]), (0, .obj [.val (.int .u64 fi), sP bk])]) (fun _ => fresh3) (fun i => l.length - i.1) ⟨0, Nat.zero_le _, rfl⟩
    (SemW.cut ⟨rfl, rfl, rfl, rfl, rfl, rfl, rfl, trivial⟩ ⟨rfl, rfl, rfl, trivial⟩ fresh3_nodup rfl rfl) (fun ⟨i, hi, ha⟩ IH => ?_)
  dsimp only at hi ha IH ⊢
  refine SemW.go tyT_ok mixed ?_
  conv => arg 6; whnf
  refine Holds.mk (by simp) ?_
  refine SemW.cond rfl (fun c1 => ?_) (fun c1 => ?_)
  · have hil : i < l.length := by simpa using c1
    have hd := replacedF_drop (f := ⟨fi, bk⟩) (old := old) hil
    rw [← ha] at hd
    refine SemW.go tyT_ok mixed ?_
    conv => arg 6; whnf
    refine Holds.mk ((by simp; omega)) ?_
    refine SemW.call0 rfl rfl func25 rfl rfl ?_
    refine swap_spec fi bk old (l.getD i P0) _ _ hb ⟨rfl, rfl, _, rfl, rfl, rfl, ?_⟩
    generalize swapF ⟨fi, bk⟩ old (l.getD i P0) = r at *
    obtain ⟨⟨rf, rb⟩, ok⟩ := r
    dsimp only at *
    refine SemW.go tyT_ok mixed ?_
    conv => arg 6; whnf
    refine Holds.mk (by simp) ?_
    refine SemW.cond rfl (fun c2 => ?_) (fun c2 => ?_)
    · subst c2
      rw [if_pos rfl] at hd
      rw [hd] at hQ
      refine SemW.go tyT_ok mixed ?_
      conv => arg 6; whnf
      refine Holds.mk (by simp) ?_
      refine SemW.ret0 tyT_ok func48 rfl rfl rfl ?_
      exact hQ
    · subst c2
      rw [if_neg (by simp)] at hd
      have IH' := IH ⟨i + 1, hil, hd⟩ (by show l.length - (i + 1) < l.length - i; omega)
      refine SemW.go tyT_ok mixed ?_
      conv => arg 6; whnf
      refine Holds.mk (by simp) ?_
      refine SemW.cut ?_ ?_ fresh3_nodup rfl rfl IH'
      · exact ⟨rfl, rfl, rfl, rfl, rfl, rfl, incI (by omega), trivial⟩
      · exact ⟨rfl, rfl, rfl, trivial⟩
  · obtain rfl : i = l.length := by simp at c1; omega
    rw [List.drop_length] at ha
    rw [ha] at hQ
    refine SemW.go tyT_ok mixed ?_
    conv => arg 6; whnf
    refine Holds.mk (by simp) ?_
    refine SemW.ret0 tyT_ok func48 rfl rfl rfl ?_
    exact hQ
end Go.Proofs.Try
set_option linter.unusedVariables false
set_option linter.unusedSimpArgs false
open Go Go.AM
namespace Go.Proofs.Try
set_option maxRecDepth 100000
set_option maxHeartbeats 4000000
theorem fresh1_ge : ∀ n ∈ fresh1, 1 ≤ n := by decide
theorem deleteFunc_spec (l : List Pl) (gn cp : Nat) (cf : Nat) (fn : Func) (caps : List AV) (is : Pl → Bool) (h : Hp) (Q : AV → List Blk → Prop) (hl : l.length < 2^40) (hcp : l.length ≤ cp) (hcaps : CapsOk caps) (hf : Try.prog.funcs[cf]? = some fn) (hn : (fn.name == "runtime.NumGoroutine") = false) (hb : fn.body.isSome = true)
    (hc : ∀ p ∈ l, ∀ h Q, Q (abool (is p)) h [] → SemC Try.prog cf ([encP p] ++ caps) h Q) (hQ : ∀ cp, (keptL l is).length ≤ cp → Q (.sl (.n 0) gn 2 0 (keptL l is).length cp) [.arr true gn 2 (keptL l is).length (fun i => encP ((keptL l is).getD i ⟨0, 0⟩))]) :
    SemCM Try.prog 45 [.sl (.n 0) gn 2 0 l.length cp, .fn cf caps] [.arr true gn 2 l.length (fun i => encP (l.getD i ⟨0, 0⟩))] h Q := by
  refine SemCM.enter func45 rfl (Nat.le_of_ble_eq_true rfl) fresh1 fresh1_nodup fresh1_ge ?_
  have e : renL ent [.sl (.n 0) gn 2 0 l.length cp, .fn cf caps] = [.sl (.l 0) gn 2 0 l.length cp, .fn cf caps] := by simp [renL, AV.ren, hcaps.ren, ent]
  rw [e]
  refine SemW.go tyT_ok mixed ?_
  conv => arg 6; whnf
  refine Holds.mk (by simp) ?_
  refine SemW.call0 rfl rfl func56 rfl rfl ?_
  refine SemC.view [sP l, .fn cf caps] ⟨AvLe.sP rfl (fun i _ => by rw [Nat.zero_add]), AvLe.of (by simp [AV.view, hcaps.view]), trivial⟩ ⟨⟨Nat.le_of_eq (Nat.zero_add _), rfl⟩, hcaps.ok _, trivial⟩ ?_
  refine indexFunc_spec l cf fn caps is _ _ (by omega) (hcaps.ren .o) hf hn hb hc ⟨rfl, trivial, rfl, rfl, _, rfl, rfl, rfl, ?_⟩
  refine SemW.go tyT_ok mixed ?_
  conv => arg 6; whnf
  refine Holds.mk (by simp) ?_
  refine SemW.cond rfl (fun c1 => ?_) (fun c1 => ?_)
  · have hnone : keptL l is = l := by
      refine keptL_all fun p hp => ?_
      have h1 : idxF l is = -1 := by simpa using c1
      have h2 := idxF_any l is
      rw [h1] at h2
      have h3 : l.any is = false := by rw [← h2]; rfl
      rw [List.any_eq_false] at h3
      simpa using h3 p hp
    rw [hnone] at hQ
    refine SemW.go tyT_ok mixed ?_
    conv => arg 6; whnf
    refine Holds.mk (by simp) ?_
    refine SemW.ret tyT_ok func45 [0] rfl rfl rfl (by decide) rfl rfl ?_
    exact ⟨rfl, hQ cp hcp⟩
  · have hi0 : l.findIdx is < l.length := by
      refine Nat.lt_of_not_le fun hge => ?_
      have : idxF l is = -1 := by rw [idxF, if_neg (by omega)]
      rw [this] at c1
      simp at c1
    have hidx : idxF l is = ((l.findIdx is : Nat) : Int) := by rw [idxF, if_pos hi0]
    rw [hidx]
    have hbefore : ∀ q (hq : q < l.length), q < l.findIdx is → is l[q] = false := fun q hq hlt => List.not_of_lt_findIdx hlt
    have hat : is l[l.findIdx is] = true := List.findIdx_getElem (w := hi0)
    generalize l.findIdx is = i0 at *
    have hk0 : keptL (l.take (i0 + 1)) is = l.take i0 := by
      rw [keptL_take hi0, hat, if_pos rfl]
      refine keptL_all fun p hp => ?_
      obtain ⟨q, hq, rfl⟩ := List.getElem_of_mem hp
      rw [List.getElem_take]
      exact hbefore q (by simp at hq; omega) (by simp at hq; omega)
    refine SemW.go tyT_ok mixed ?_
    conv => arg 6; whnf
    refine Holds.mk (by simp) ?_
    refine SemW.loop (X := {x : List Pl × Nat // x.1.length = l.length ∧ x.2 ≤ l.length ∧ (∀ q, q < (keptL (l.take x.2) is).length → x.1.getD q P0 = (keptL (l.take x.2) is).getD q P0) ∧ ∀ q, x.2 ≤ q → x.1.getD q P0 = l.getD q P0}) (fun x => [(0, .sl (.l 0) gn 2 0 l.length cp), (1, .fn cf caps), (5, aint (((keptL (l.take x.1.2) is).length : Nat) : Int)), (6, aint x.1.2)]) (fun x => [(0, .arr true gn 2 l.length (fun i => encP (x.1.1.getD i ⟨0, 0⟩)))]) (fun _ => fresh1) (fun x => l.length - x.1.2)
      ⟨(l, i0 + 1), rfl, hi0, fun q hq => by rw [hk0] at hq ⊢; have h1 : q < i0 := (by simp at hq; omega); simp [List.getElem?_take, h1], fun _ _ => rfl⟩
      (SemW.cutW ⟨AvLe.refl _, AvLe.refl _, AvLe.of ?_, AvLe.of (incI (by omega)), trivial⟩ ⟨⟨_, rfl, BlkLe.refl _⟩, trivial⟩ fresh1_nodup (by simp only [avoidT, AV.avoid, hcaps.avoid]; rfl) rfl) (fun ⟨⟨cur, j⟩, hcl, hj, hk, hr⟩ IH => ?_)
    · show _ = aint (((keptL (l.take (i0 + 1)) is).length : Nat) : Int)
      rw [hk0, List.length_take, Nat.min_eq_left (by omega)]
      rfl
    dsimp only at hcl hj hk hr IH ⊢
    have hkl := keptL_le l is j
    refine SemW.go tyT_ok mixed ?_
    conv => arg 6; whnf
    refine Holds.mk (by simp) ?_
    refine SemW.cond rfl (fun c2 => ?_) (fun c2 => ?_)
    · have hjl : j < l.length := by simpa using c2
      have hg : cur.getD (0 + ((j : Int)).toNat) ⟨0, 0⟩ = l[j] := by rw [Nat.zero_add, Int.toNat_natCast, hr j (Nat.le_refl _)]; simp [hjl]
      have htk := keptL_take (is := is) hjl
      refine SemW.go tyT_ok mixed ?_
      conv => arg 6; whnf
      refine Holds.mk ((by simp; omega)) ?_
      refine SemW.call0 rfl rfl hf hn hb ?_
      have hcall := hc l[j] (List.getElem_mem hjl)
      rw [← hg] at hcall
      refine hcall _ _ ⟨rfl, rfl, _, rfl, rfl, rfl, ?_⟩
      rw [hg]
      refine SemW.go tyT_ok mixed ?_
      conv => arg 6; whnf
      refine Holds.mk (by simp) ?_
      refine SemW.cond rfl (fun c3 => ?_) (fun c3 => ?_)
      · have c3' : is l[j] = false := by simpa using c3
        rw [c3', if_neg (by simp)] at htk
        have IH' := IH ⟨(cur.set (keptL (l.take j) is).length l[j], j + 1), by simp [hcl], hjl, fun q hq => ?_, fun q hq => ?_⟩ (by show l.length - (j + 1) < l.length - j; omega)
        · dsimp only at IH'
          refine SemW.go tyT_ok mixed ?_
          conv => arg 6; whnf
          refine Holds.mk ((by simp; omega)) ?_
          refine SemW.cutW ?_ ?_ fresh1_nodup (by simp only [avoidT, AV.avoid, hcaps.avoid]; rfl) rfl IH'
          · refine ⟨AvLe.refl _, AvLe.refl _, AvLe.of ?_, AvLe.of (incI (by omega)), trivial⟩
            rw [htk, List.length_append]
            exact incI (by omega)
          · refine ⟨⟨_, rfl, BlkLe.arr (Nat.le_refl _) fun q hq => ?_⟩, trivial⟩
            simp only [Nat.zero_add, Int.toNat_natCast]
            cases hb0 : Nat.beq q (keptL (l.take j) is).length with
            | true =>
              have e := Nat.eq_of_beq_eq_true hb0
              have e2 : (cur.set (keptL (l.take j) is).length l[j]).getD q ⟨0, 0⟩ = l[j] := by subst e; simp [hcl, hq]
              have hgj : cur.getD j ⟨0, 0⟩ = l[j] := by simpa using hg
              rw [e2, ← hgj]
              rfl
            | false =>
              have e : (keptL (l.take j) is).length ≠ q := fun e => by subst e; simp at hb0
              have e2 : (cur.set (keptL (l.take j) is).length l[j]).getD q ⟨0, 0⟩ = cur.getD q ⟨0, 0⟩ := by simp [List.getElem?_set_ne e]
              rw [e2]
              rfl
        · dsimp only at hq ⊢
          rw [htk] at hq ⊢
          by_cases e : q = (keptL (l.take j) is).length
          · subst e
            have : (keptL (l.take j) is).length < cur.length := by omega
            simp [this]
          · have hq' : q < (keptL (l.take j) is).length := by simp at hq; omega
            have := hk q hq'
            simp only [List.getD_eq_getElem?_getD] at this ⊢
            rw [List.getElem?_set_ne (Ne.symm e), List.getElem?_append_left hq']
            exact this
        · dsimp only at hq ⊢
          have := hr q (by omega)
          simp only [List.getD_eq_getElem?_getD] at this ⊢
          rw [List.getElem?_set_ne (by omega)]
          exact this
      · have c3' : is l[j] = true := by simpa using c3
        rw [c3', if_pos rfl] at htk
        have IH' := IH ⟨(cur, j + 1), hcl, hjl, fun q hq => by dsimp only at hq ⊢; rw [htk] at hq ⊢; exact hk q hq, fun q hq => hr q (by dsimp only at hq; omega)⟩ (by show l.length - (j + 1) < l.length - j; omega)
        dsimp only at IH'
        rw [htk] at IH'
        refine SemW.go tyT_ok mixed ?_
        conv => arg 6; whnf
        refine Holds.mk (by simp) ?_
        refine SemW.cutW ?_ ?_ fresh1_nodup (by simp only [avoidT, AV.avoid, hcaps.avoid]; rfl) rfl IH'
        · exact ⟨AvLe.refl _, AvLe.refl _, AvLe.refl _, AvLe.of (incI (by omega)), trivial⟩
        · exact ⟨⟨_, rfl, BlkLe.refl _⟩, trivial⟩
    · obtain rfl : j = l.length := by simp at c2; omega
      rw [List.take_length] at hk hkl
      refine SemW.go tyT_ok mixed ?_
      conv => arg 6; whnf
      refine Holds.mk ((by simp [List.take_length]; omega)) ?_
      refine SemW.weak (T' := [(4, .sl (.l 0) gn 2 0 (keptL l is).length (keptL l is).length)]) (L' := [(0, .arr true gn 2 (keptL l is).length (fun i => encP ((keptL l is).getD i ⟨0, 0⟩)))]) ⟨?_, trivial⟩ ⟨⟨_, rfl, BlkLe.arr hkl fun q hq => ?_⟩, trivial⟩ ?_
      · refine AvLe.trans (AvLe.of ?_) (AvLe.sl (cp := cp) (len := (keptL l is).length) rfl (Nat.le_refl _) (by omega))
        rw [List.take_length]
        rfl
      · rw [← hk q hq]
        rw [List.take_length]
        have : (Nat.ble (0 + ((((keptL l is).length : Nat) : Int)).toNat) q) = false := by
          cases hb0 : Nat.ble (0 + ((((keptL l is).length : Nat) : Int)).toNat) q with
          | false => rfl
          | true => have := Nat.le_of_ble_eq_true hb0; simp at this; omega
        simp only [this, Bool.false_and, cond_false]
      · refine SemW.ret tyT_ok func45 [0] rfl rfl rfl (by decide) rfl rfl ?_
        exact ⟨rfl, hQ _ (Nat.le_refl _)⟩
theorem delete_spec (l : List Pl) (gn cp i j : Nat) (h : Hp) (Q : AV → List Blk → Prop) (hl : l.length < 2^40) (hcp : l.length ≤ cp) (hij : i ≤ j) (hj : j ≤ l.length)
    (hQ : ∀ g cp, (l.take i ++ l.drop j).length ≤ cp → Q (.sl (.n 0) g 2 0 (l.take i ++ l.drop j).length cp) [.arr true g 2 (l.take i ++ l.drop j).length (fun q => encP ((l.take i ++ l.drop j).getD q ⟨0, 0⟩))]) :
    SemCM Try.prog 49 [.sl (.n 0) gn 2 0 l.length cp, aint i, aint j] [.arr true gn 2 l.length (fun i => encP (l.getD i ⟨0, 0⟩))] h Q := by
  refine SemCM.enter func49 rfl (Nat.le_of_ble_eq_true rfl) fresh1 fresh1_nodup fresh1_ge ?_
  have hlen : (l.take i ++ l.drop j).length = i + (l.length - j) := by simp; omega
  refine SemW.go tyT_ok mixed ?_
  conv => arg 6; whnf
  refine Holds.mk ((by simp; omega)) ?_
  refine SemW.cond rfl (fun c1 => ?_) (fun c1 => ?_)
  · have e : i = j := by
      have := c1
      simp at this
      omega
    subst e
    rw [List.take_append_drop] at hQ
    refine SemW.go tyT_ok mixed ?_
    conv => arg 6; whnf
    refine Holds.mk (by simp) ?_
    refine SemW.ret tyT_ok func49 [0] rfl rfl rfl (by decide) rfl rfl ?_
    exact ⟨rfl, hQ gn cp hcp⟩
  · refine SemW.go tyT_ok mixed ?_
    conv => arg 6; whnf
    refine Holds.mk ((by simp; omega)) ?_
    refine SemW.weak (T' := [(6, .sl (.l 0) (gn + 1) 2 0 (l.take i ++ l.drop j).length (l.take i ++ l.drop j).length)]) (L' := [(0, .arr true (gn + 1) 2 (l.take i ++ l.drop j).length (fun q => encP ((l.take i ++ l.drop j).getD q ⟨0, 0⟩)))]) ⟨?_, trivial⟩ ⟨⟨_, rfl, BlkLe.arr ?_ fun q hq => ?_⟩, trivial⟩ ?_
    · exact AvLe.sl (by rw [hlen]; simp) (Nat.le_refl _) (by rw [hlen]; simp; omega)
    · rw [hlen]; simp
    · rw [hlen] at hq
      simp only [Nat.zero_add, Int.toNat_natCast, Nat.sub_zero]
      have hb1 : Nat.ble (i + (l.length - j)) q = false := by
        cases hb0 : Nat.ble (i + (l.length - j)) q with
        | false => rfl
        | true => have := Nat.le_of_ble_eq_true hb0; omega
      rw [hb1, Bool.false_and]
      simp only [cond_false]
      cases hb2 : Nat.blt q i with
      | true =>
        have hlt := Nat.blt_eq.mp hb2
        have : (l.take i ++ l.drop j).getD q ⟨0, 0⟩ = l.getD q ⟨0, 0⟩ := by
          have h1 : q < (l.take i).length := by simp; omega
          simp only [List.getD_eq_getElem?_getD]
          rw [List.getElem?_append_left h1]
          simp [List.getElem?_take, hlt]
        rw [this]
        rfl
      | false =>
        have hge : i ≤ q := Nat.le_of_not_lt fun hlt => by rw [← Nat.blt_eq, hb2] at hlt; cases hlt
        obtain ⟨m, rfl⟩ := Nat.exists_eq_add_of_le hge
        have : (l.take i ++ l.drop j).getD (i + m) ⟨0, 0⟩ = l.getD (j + m) ⟨0, 0⟩ := by
          have h1 : (l.take i).length = i := by simp; omega
          simp only [List.getD_eq_getElem?_getD]
          rw [List.getElem?_append_right (by omega), h1, Nat.add_sub_cancel_left]
          simp
        rw [this, Nat.add_sub_cancel_left]
        rfl
    · refine SemW.ret tyT_ok func49 [0] rfl rfl rfl (by decide) rfl rfl ?_
      exact ⟨rfl, hQ _ _ (Nat.le_refl _)⟩
end Go.Proofs.Try
set_option linter.unusedVariables false
set_option linter.unusedSimpArgs false
open Go Go.AM
namespace Go.Proofs.Try
set_option maxRecDepth 100000
set_option maxHeartbeats 8000000
def badB (bad : List Pl) (x : Pl) : Bool := bad.any (· == x)
def rn1 (known bad : List Pl) (s : Fr × Bool × List Pl) (old : Pl) : Fr × Bool × List Pl :=
  if badB bad old then ((replacedF s.1 old known).1, s.2.1 || (replacedF s.1 old known).2, if (replacedF s.1 old known).2 then s.2.2 else s.2.2 ++ [old]) else s
def rn2 (w : Int) (s : List Pl × Bool) (old : Pl) : List Pl × Bool :=
  if (s.1.length : Int) > w ∧ 0 ≤ idxF s.1 (· == old) then (s.1.take (idxF s.1 (· == old)).toNat ++ s.1.drop ((idxF s.1 (· == old)).toNat + 1), true) else s
def rn3 (e : Int) (b : List Pl) (x : Pl) : List Pl :=
  if decide ((b.length : Int) < min e 5) && !(b.any fun y => y.node == x.node) then b ++ [x] else b
def renewF (f : Fr) (w e : Int) (bad known : List Pl) : Fr × Bool :=
  let kn := keptL known (badB bad)
  let s1 := f.books.foldl (rn1 kn bad) (f, false, [])
  let s2 := s1.2.2.foldl (rn2 w) (s1.1.books, s1.2.1)
  if s2.2 then (⟨s1.1.first, kn.foldl (rn3 e) s2.1⟩, true) else (F0, false)
theorem foldl_take {α β : Type} (f : β → α → β) (a : β) {l : List α} {i : Nat} (h : i < l.length) : (l.take (i + 1)).foldl f a = f ((l.take i).foldl f a) l[i] := by
  have e : l.take (i + 1) = l.take i ++ [l[i]] := by rw [List.take_add_one, List.getElem?_eq_getElem h]; rfl
  rw [e, List.foldl_append]
  rfl
theorem replacedF_len (f : Fr) (old : Pl) (l : List Pl) : (replacedF f old l).1.books.length = f.books.length := by
  induction l with
  | nil => rfl
  | cons x l ih =>
    unfold replacedF
    split
    · rename_i h
      revert h
      unfold swapF
      split
      · simp
      · split
        · simp
        · simp
    · exact ih
theorem rn1_len (kn bad : List Pl) : ∀ (l : List Pl) (s : Fr × Bool × List Pl), (l.foldl (rn1 kn bad) s).1.books.length = s.1.books.length ∧ (l.foldl (rn1 kn bad) s).2.2.length ≤ s.2.2.length + l.length
  | [], s => ⟨rfl, Nat.le_refl _⟩
  | x :: l, s => by
    obtain ⟨h1, h2⟩ := rn1_len kn bad l (rn1 kn bad s x)
    have h3 : (rn1 kn bad s x).1.books.length = s.1.books.length ∧ (rn1 kn bad s x).2.2.length ≤ s.2.2.length + 1 := by
      unfold rn1
      split
      · refine ⟨replacedF_len _ _ _, ?_⟩
        dsimp only
        split <;> simp
      · exact ⟨rfl, by omega⟩
    simp only [List.foldl_cons, List.length_cons]
    omega
theorem rn2_len (w : Int) : ∀ (l : List Pl) (s : List Pl × Bool), (l.foldl (rn2 w) s).1.length ≤ s.1.length
  | [], s => Nat.le_refl _
  | x :: l, s => by
    have h1 := rn2_len w l (rn2 w s x)
    have h3 : (rn2 w s x).1.length ≤ s.1.length := by
      unfold rn2
      split
      · simp
        omega
      · exact Nat.le_refl _
    simp only [List.foldl_cons]
    omega
theorem renew1_spec (bad : List Pl) (x : Pl) (h : Hp) (Q : AV → Hp → List Blk → Prop) (hl : bad.length < 2^62) (hQ : Q (abool (badB bad x)) h []) : SemC Try.prog 46 [encP x, .vp true 1 (.agg [sP bad]) 0] h Q := by
  refine SemC.enter func46 rfl (Nat.le_of_ble_eq_true rfl) fresh fresh_nodup ?_
  refine SemW.go tyT_ok mixed ?_
  conv => arg 6; whnf
  refine Holds.mk (by simp) ?_
  refine SemW.call0 rfl rfl func47 rfl rfl ?_
  refine contains_spec bad x _ _ hl ⟨rfl, rfl, _, rfl, rfl, rfl, ?_⟩
  refine SemW.go tyT_ok mixed ?_
  conv => arg 6; whnf
  refine Holds.mk (by simp) ?_
  refine SemW.ret0 tyT_ok func46 rfl rfl rfl ?_
  exact hQ
theorem renew2_spec (x y : Pl) (h : Hp) (Q : AV → Hp → List Blk → Prop) (hQ : Q (abool (y.node == x.node)) h []) : SemC Try.prog 50 [encP y, .vp true 2 (.agg [.val (.int .i64 x.node), .val (.int .u64 x.serial)]) 0] h Q := by
  refine SemC.enter func50 rfl (Nat.le_of_ble_eq_true rfl) fresh fresh_nodup ?_
  refine SemW.go tyT_ok mixed ?_
  conv => arg 6; whnf
  refine Holds.mk (by simp) ?_
  refine SemW.ret0 tyT_ok func50 rfl rfl rfl ?_
  exact hQ
theorem renew_spec (fi : Int) (bk : List Pl) (w e : Int) (bad known : List Pl) (h : Hp) (Q : AV → Hp → List Blk → Prop) (hbk : bk.length < 2^40) (hbad : bad.length < 2^40) (hkn : known.length < 2^40) (hQ : Q (.tup [encF (renewF ⟨fi, bk⟩ w e bad known).1, abool (renewF ⟨fi, bk⟩ w e bad known).2]) h []) :
    SemC Try.prog 28 [encF ⟨fi, bk⟩, aint w, aint e, sP bad, sP known] h Q := by
  refine SemC.enter func28 rfl (Nat.le_of_ble_eq_true rfl) fresh fresh_nodup ?_
  refine SemW.go tyT_ok mixed ?_
  conv => arg 6; whnf
  refine Holds.mk (by simp) ?_
  refine SemW.call rfl rfl func44 rfl rfl ?_
  refine cloneOwn_spec known _ _ hkn fun g cp hcp => ⟨h, _, rfl, Nat.le_of_ble_eq_true rfl, ?_⟩
  refine SemW.go tyT_ok mixed ?_
  conv => arg 6; whnf
  refine Holds.mk (by simp) ?_
  refine SemW.frzW (T' := [(1, aint w), (2, aint e), (5, .ptr (.l 0) 0), (8, .vp true 1 (.agg [sP bad]) 0), (10, .ptr (.l 2) 0), (11, abool false), (24, .sl (.l 3) g 2 0 known.length cp), (25, .fn 46 [.vp true 1 (.agg [sP bad]) 0])]) (L' := [(3, .arr true g 2 known.length (fun i => encP (known.getD i ⟨0, 0⟩))), (2, .obj [.val (.int .u64 0), nilS]), (0, .obj [.val (.int .u64 fi), sP bk])]) 1 rfl rfl
    ⟨AvLe.refl _, trivial, AvLe.refl _, trivial, AvLe.refl _, trivial, AvLe.refl _, trivial, AvLe.refl _, trivial, AvLe.refl _, trivial, AvLe.refl _, trivial, AvLe.refl _, ⟨trivial, trivial⟩, trivial⟩ ⟨rfl, rfl, rfl, ⟨rfl, trivial, trivial, trivial⟩, rfl, ⟨rfl, trivial, trivial, trivial⟩, trivial⟩ ?_
  refine SemW.callM [3] [(2, .obj [.val (.int .u64 0), nilS]), (0, .obj [.val (.int .u64 fi), sP bk])] rfl rfl func45 rfl rfl rfl (by decide) (fun k hk => by have e : k = 3 := (by simpa using hk); subst e; exact (by decide : 3 ∉ [4, 5, 6, 7, 8, 9])) ⟨rfl, rfl, trivial⟩ rfl ?_
  refine deleteFunc_spec known g cp _ _ [.vp true 1 (.agg [sP bad]) 0] (badB bad) _ _ hkn hcp (CapsOk.vp _ _ _ _) func46 rfl rfl (fun p _ h Q hQ => renew1_spec bad p h Q (by omega) hQ) fun cp' hcp' => ⟨Nat.le_of_ble_eq_true rfl, ?_⟩
  have hknl : (keptL known (badB bad)).length < 2^40 := by
    have := List.length_filter_le (fun p => !(badB bad p)) known
    unfold keptL
    omega
  unfold renewF at hQ
  dsimp only at hQ
  generalize keptL known (badB bad) = kn at *
  refine SemW.go tyT_ok mixed ?_
  conv => arg 6; whnf
  refine Holds.mk (by simp) ?_
  refine SemW.frzW (T' := [(1, aint w), (2, aint e), (4, sP kn), (8, .vp true 1 (.agg [sP bad]) 0), (10, .ptr (.l 2) 0), (12, abool false), (13, nilS), (14, .ptr (.l 5) 0), (29, sP bk), (30, aint bk.length), (31, aint 0)]) (L' := [(5, .obj [.val (.int .u64 fi), sP bk]), (2, .obj [.val (.int .u64 0), nilS])]) 4 rfl rfl
    ⟨AvLe.refl _, trivial, AvLe.refl _, trivial, AvLe.sP rfl (fun i _ => by rw [Nat.zero_add]), ⟨Nat.le_of_eq (Nat.zero_add _), rfl⟩, AvLe.refl _, trivial, AvLe.refl _, trivial, AvLe.refl _, trivial, AvLe.refl _, trivial, AvLe.refl _, trivial, AvLe.refl _, trivial, AvLe.refl _, trivial, AvLe.refl _, trivial, trivial⟩ ⟨rfl, ⟨rfl, trivial, trivial, trivial⟩, rfl, ⟨rfl, trivial, trivial, trivial⟩, trivial⟩ ?_
  refine SemW.nilRow (t := 13) true 2 (fun i => encP (([] : List Pl).getD i ⟨0, 0⟩)) rfl ?_
  refine SemW.loop (X := {x : Nat × Nat // x.1 ≤ bk.length}) (fun x => [(1, aint w), (2, aint e), (4, sP kn), (8, .vp true 1 (.agg [sP bad]) 0), (10, .ptr (.l 2) 0), (12, abool ((bk.take x.1.1).foldl (rn1 kn bad) (⟨fi, bk⟩, false, [])).2.1), (13, .sl (.l 6) x.1.2 2 0 ((bk.take x.1.1).foldl (rn1 kn bad) (⟨fi, bk⟩, false, [])).2.2.length ((bk.take x.1.1).foldl (rn1 kn bad) (⟨fi, bk⟩, false, [])).2.2.length), (14, .ptr (.l 5) 0), (29, sP bk), (30, aint bk.length), (31, aint x.1.1)])
    (fun x => [(6, .arr true x.1.2 2 ((bk.take x.1.1).foldl (rn1 kn bad) (⟨fi, bk⟩, false, [])).2.2.length (fun i => encP (((bk.take x.1.1).foldl (rn1 kn bad) (⟨fi, bk⟩, false, [])).2.2.getD i ⟨0, 0⟩))), (5, .obj [.val (.int .u64 ((bk.take x.1.1).foldl (rn1 kn bad) (⟨fi, bk⟩, false, [])).1.first), sP ((bk.take x.1.1).foldl (rn1 kn bad) (⟨fi, bk⟩, false, [])).1.books]), (2, .obj [.val (.int .u64 0), nilS])]) (fun _ => [0, 1, 3, 4, 7, 8, 9]) (fun x => bk.length - x.1.1) ⟨(0, 0), Nat.zero_le _⟩
    (SemW.cut ⟨rfl, rfl, rfl, rfl, rfl, rfl, rfl, rfl, rfl, rfl, rfl, trivial⟩ ⟨rfl, rfl, rfl, trivial⟩ (by decide) rfl rfl) (fun ⟨⟨i, gl⟩, hi⟩ IH => ?_)
  dsimp only at hi IH ⊢
  have hlen1 : ∀ i, ((bk.take i).foldl (rn1 kn bad) (⟨fi, bk⟩, false, [])).1.books.length = bk.length := fun i => (rn1_len kn bad (bk.take i) (⟨fi, bk⟩, false, [])).1
  have hlen2 : ((bk.take i).foldl (rn1 kn bad) (⟨fi, bk⟩, false, [])).2.2.length ≤ i := by
    have := (rn1_len kn bad (bk.take i) (⟨fi, bk⟩, false, [])).2
    simp at this
    omega
  refine SemW.go tyT_ok mixed ?_
  conv => arg 6; whnf
  refine Holds.mk (by simp) ?_
  refine SemW.cond rfl (fun c1 => ?_) (fun c1 => ?_)
  · have hil : i < bk.length := by simpa using c1
    have hst := foldl_take (rn1 kn bad) (⟨fi, bk⟩, false, []) hil
    have IH' := fun gl' => IH ⟨(i + 1, gl'), hil⟩ (by show bk.length - (i + 1) < bk.length - i; omega)
    dsimp only at IH'
    rw [hst] at IH'
    have hl1 := hlen1 i
    generalize (bk.take i).foldl (rn1 kn bad) (⟨fi, bk⟩, false, []) = s at *
    obtain ⟨⟨gf, gb⟩, so, lf⟩ := s
    dsimp only at *
    have hg : bk.getD i ⟨0, 0⟩ = bk[i] := by simp [hil]
    refine SemW.go tyT_ok mixed ?_
    conv => arg 6; whnf
    refine Holds.mk ((by simp; omega)) ?_
    refine SemW.call0 rfl rfl func47 rfl rfl ?_
    refine contains_spec bad (bk.getD i ⟨0, 0⟩) _ _ (by omega) ⟨rfl, rfl, _, rfl, rfl, rfl, ?_⟩
    refine SemW.go tyT_ok mixed ?_
    conv => arg 6; whnf
    refine Holds.mk (by simp) ?_
    refine SemW.cond rfl (fun c2 => ?_) (fun c2 => ?_)
    · have hnb : badB bad bk[i] = false := by rw [← hg]; simpa [badB] using c2
      have hs : rn1 kn bad (⟨gf, gb⟩, so, lf) bk[i] = (⟨gf, gb⟩, so, lf) := by simp [rn1, hnb]
      rw [hs] at IH'
      refine SemW.go tyT_ok mixed ?_
      conv => arg 6; whnf
      refine Holds.mk (by simp) ?_
      refine SemW.cut ?_ ?_ (by decide) rfl rfl (IH' gl)
      · exact ⟨rfl, rfl, rfl, rfl, rfl, rfl, rfl, rfl, rfl, rfl, incI (by omega), trivial⟩
      · exact ⟨rfl, rfl, rfl, trivial⟩
    · have hnb : badB bad bk[i] = true := by rw [← hg]; simpa [badB] using c2
      refine SemW.go tyT_ok mixed ?_
      conv => arg 6; whnf
      refine Holds.mk (by simp) ?_
      refine SemW.call0 rfl rfl func48 rfl rfl ?_
      refine replaced_spec gf gb (bk.getD i ⟨0, 0⟩) kn _ _ (by omega) (by omega) ⟨rfl, rfl, _, rfl, rfl, rfl, ?_⟩
      have hs : rn1 kn bad (⟨gf, gb⟩, so, lf) bk[i] = ((replacedF ⟨gf, gb⟩ bk[i] kn).1, so || (replacedF ⟨gf, gb⟩ bk[i] kn).2, if (replacedF ⟨gf, gb⟩ bk[i] kn).2 then lf else lf ++ [bk[i]]) := by simp [rn1, hnb]
      rw [hs, ← hg] at IH'
      generalize replacedF ⟨gf, gb⟩ (bk.getD i ⟨0, 0⟩) kn = r at *
      obtain ⟨⟨rf, rb⟩, ok⟩ := r
      dsimp only at *
      refine SemW.go tyT_ok mixed ?_
      conv => arg 6; whnf
      refine Holds.mk (by simp) ?_
      refine SemW.cond rfl (fun c3 => ?_) (fun c3 => ?_)
      · have e0 : ok = false := by simpa using c3
        subst e0
        rw [if_neg (by simp)] at IH'
        refine SemW.go tyT_ok mixed ?_
        conv => arg 6; whnf
        refine Holds.mk ((by simp; omega)) ?_
        refine SemW.split (fun c4 => ?_) (fun c4 => ?_)
        · subst c4
          refine SemW.go tyT_ok mixed ?_
          conv => arg 6; whnf
          refine Holds.mk (by simp) ?_
          refine SemW.cutW ?_ ?_ (by decide) rfl rfl (IH' (gl + 1))
          · exact ⟨AvLe.refl _, AvLe.refl _, AvLe.refl _, AvLe.refl _, AvLe.refl _, AvLe.refl _, AvLe.sl (by simp) (Nat.le_refl _) (by simp), AvLe.refl _, AvLe.refl _, AvLe.refl _, AvLe.of (incI (by omega)), trivial⟩
          · exact ⟨⟨_, rfl, BlkLe.arr (by simp) (app1P rfl)⟩, ⟨_, rfl, BlkLe.refl _⟩, ⟨_, rfl, BlkLe.refl _⟩, trivial⟩
        · subst c4
          refine SemW.go tyT_ok mixed ?_
          conv => arg 6; whnf
          refine Holds.mk (by simp) ?_
          refine SemW.cutW ?_ ?_ (by decide) rfl rfl (IH' (gl + 1))
          · exact ⟨AvLe.refl _, AvLe.refl _, AvLe.refl _, AvLe.refl _, AvLe.refl _, AvLe.refl _, AvLe.sl (by simp) (Nat.le_refl _) (by simp), AvLe.refl _, AvLe.refl _, AvLe.refl _, AvLe.of (incI (by omega)), trivial⟩
          · exact ⟨⟨_, rfl, BlkLe.arr (by simp) (app1P rfl)⟩, ⟨_, rfl, BlkLe.refl _⟩, ⟨_, rfl, BlkLe.refl _⟩, trivial⟩
      · have e0 : ok = true := by simpa using c3
        subst e0
        rw [if_pos rfl] at IH'
        refine SemW.go tyT_ok mixed ?_
        conv => arg 6; whnf
        refine Holds.mk (by simp) ?_
        refine SemW.split (fun c4 => ?_) (fun c4 => ?_)
        · subst c4
          refine SemW.go tyT_ok mixed ?_
          conv => arg 6; whnf
          refine Holds.mk (by simp) ?_
          refine SemW.cutW ?_ ?_ (by decide) rfl rfl (IH' gl)
          · exact ⟨AvLe.refl _, AvLe.refl _, AvLe.refl _, AvLe.refl _, AvLe.refl _, AvLe.refl _, AvLe.refl _, AvLe.refl _, AvLe.refl _, AvLe.refl _, AvLe.of (incI (by omega)), trivial⟩
          · exact ⟨⟨_, rfl, BlkLe.refl _⟩, ⟨_, rfl, BlkLe.refl _⟩, ⟨_, rfl, BlkLe.refl _⟩, trivial⟩
        · subst c4
          refine SemW.go tyT_ok mixed ?_
          conv => arg 6; whnf
          refine Holds.mk (by simp) ?_
          refine SemW.cutW ?_ ?_ (by decide) rfl rfl (IH' gl)
          · exact ⟨AvLe.refl _, AvLe.refl _, AvLe.refl _, AvLe.refl _, AvLe.refl _, AvLe.refl _, AvLe.refl _, AvLe.refl _, AvLe.refl _, AvLe.refl _, AvLe.of (incI (by omega)), trivial⟩
          · exact ⟨⟨_, rfl, BlkLe.refl _⟩, ⟨_, rfl, BlkLe.refl _⟩, ⟨_, rfl, BlkLe.refl _⟩, trivial⟩
  · obtain rfl : i = bk.length := by simp at c1; omega
    rw [List.take_length] at *
    have hl1 := hlen1 bk.length
    rw [List.take_length] at hl1
    clear IH hlen1
    generalize bk.foldl (rn1 kn bad) (⟨fi, bk⟩, false, []) = s at *
    obtain ⟨⟨gf, gb⟩, so, lf⟩ := s
    dsimp only at *
    refine SemW.frzW (T' := [(1, aint w), (2, aint e), (4, sP kn), (10, .ptr (.l 2) 0), (12, abool so), (13, sP lf), (14, .ptr (.l 5) 0)]) (L' := [(5, .obj [.val (.int .u64 gf), sP gb]), (2, .obj [.val (.int .u64 0), nilS])]) 6 rfl rfl
      ⟨AvLe.refl _, trivial, AvLe.refl _, trivial, AvLe.refl _, trivial, AvLe.refl _, trivial, AvLe.refl _, trivial, AvLe.sP rfl (fun i _ => by rw [Nat.zero_add]), ⟨Nat.le_of_eq (Nat.zero_add _), rfl⟩, AvLe.refl _, trivial, trivial⟩ ⟨rfl, ⟨rfl, trivial, trivial, trivial⟩, rfl, ⟨rfl, trivial, trivial, trivial⟩, trivial⟩ ?_
    refine SemW.go tyT_ok mixed ?_
    conv => arg 6; whnf
    refine Holds.mk (by simp) ?_
    refine SemW.call rfl rfl func44 rfl rfl ?_
    refine cloneOwn_spec gb _ _ (by omega) fun g2 cp2 hcp2 => ⟨h, _, rfl, Nat.le_of_ble_eq_true rfl, ?_⟩
    refine SemW.go tyT_ok mixed ?_
    conv => arg 6; whnf
    refine Holds.mk (by simp) ?_
    refine SemW.loop (X := {x : Nat × Nat × Nat // x.1 ≤ lf.length ∧ ((lf.take x.1).foldl (rn2 w) (gb, so)).1.length ≤ x.2.2}) (fun x => [(1, aint w), (2, aint e), (4, sP kn), (10, .ptr (.l 2) 0), (12, abool ((lf.take x.1.1).foldl (rn2 w) (gb, so)).2), (14, .ptr (.l 5) 0), (61, sP lf), (62, aint lf.length), (63, aint x.1.1)])
      (fun x => [(0, .arr true x.1.2.1 2 ((lf.take x.1.1).foldl (rn2 w) (gb, so)).1.length (fun i => encP (((lf.take x.1.1).foldl (rn2 w) (gb, so)).1.getD i ⟨0, 0⟩))), (5, .obj [.val (.int .u64 gf), .sl (.l 0) x.1.2.1 2 0 ((lf.take x.1.1).foldl (rn2 w) (gb, so)).1.length x.1.2.2]), (2, .obj [.val (.int .u64 0), nilS])]) (fun _ => [1, 3, 4, 6, 7, 8, 9]) (fun x => lf.length - x.1.1) ⟨(0, g2, cp2), Nat.zero_le _, hcp2⟩
      (SemW.cut ⟨rfl, rfl, rfl, rfl, rfl, rfl, rfl, rfl, rfl, trivial⟩ ⟨rfl, rfl, rfl, trivial⟩ (by decide) rfl rfl) (fun ⟨⟨i, gn, cn⟩, hi, hcn⟩ IH => ?_)
    dsimp only at hi hcn IH ⊢
    have hlen3 : ∀ i, ((lf.take i).foldl (rn2 w) (gb, so)).1.length ≤ gb.length := fun i => rn2_len w (lf.take i) (gb, so)
    refine SemW.go tyT_ok mixed ?_
    conv => arg 6; whnf
    refine Holds.mk (by simp) ?_
    refine SemW.cond rfl (fun d1 => ?_) (fun d1 => ?_)
    · have hil : i < lf.length := by simpa using d1
      have hst := foldl_take (rn2 w) (gb, so) hil
      have IH' := fun g' c' hc' => IH ⟨(i + 1, g', c'), hil, hc'⟩ (by show lf.length - (i + 1) < lf.length - i; omega)
      dsimp only at IH'
      rw [hst] at IH'
      have hl3 := hlen3 i
      clear IH hlen3
      generalize (lf.take i).foldl (rn2 w) (gb, so) = s at *
      obtain ⟨b, sm⟩ := s
      dsimp only at *
      have hg : lf.getD i ⟨0, 0⟩ = lf[i] := by simp [hil]
      rw [← hg] at IH'
      refine SemW.go tyT_ok mixed ?_
      conv => arg 6; whnf
      refine Holds.mk ((by simp; omega)) ?_
      refine SemW.call0 rfl rfl func43 rfl rfl ?_
      refine SemC.view [sP b, encP (lf.getD i ⟨0, 0⟩)] ⟨AvLe.sP rfl (fun i _ => by rw [Nat.zero_add]), AvLe.refl _, trivial⟩ ⟨⟨Nat.le_of_eq (Nat.zero_add _), rfl⟩, ⟨trivial, trivial, trivial⟩, trivial⟩ ?_
      refine index_spec b (lf.getD i ⟨0, 0⟩) _ _ (by omega) ⟨rfl, trivial, rfl, rfl, _, rfl, rfl, rfl, ?_⟩
      have hrn : rn2 w (b, sm) (lf.getD i ⟨0, 0⟩) = if (b.length : Int) > w ∧ 0 ≤ idxF b (· == lf.getD i ⟨0, 0⟩) then (b.take (idxF b (· == lf.getD i ⟨0, 0⟩)).toNat ++ b.drop ((idxF b (· == lf.getD i ⟨0, 0⟩)).toNat + 1), true) else (b, sm) := rfl
      have hkb : idxF b (· == lf.getD i ⟨0, 0⟩) < b.length := by
        unfold idxF
        split <;> omega
      rw [hrn] at IH'
      generalize idxF b (· == lf.getD i ⟨0, 0⟩) = k at *
      refine SemW.go tyT_ok mixed ?_
      conv => arg 6; whnf
      refine Holds.mk (by simp) ?_
      refine SemW.split (fun d2 => ?_) (fun d2 => ?_)
      · have d2' : (b.length : Int) > w := by simpa using d2
        refine SemW.go tyT_ok mixed ?_
        conv => arg 6; whnf
        refine Holds.mk (by simp) ?_
        refine SemW.cond rfl (fun d3 => ?_) (fun d3 => ?_)
        · have d3' : 0 ≤ k := by simpa using d3
          obtain ⟨m, rfl⟩ : ∃ m : Nat, k = m := ⟨k.toNat, by omega⟩
          rw [if_pos ⟨d2', d3'⟩, Int.toNat_natCast] at IH'
          dsimp only at IH'
          refine SemW.go tyT_ok mixed ?_
          conv => arg 6; whnf
          refine Holds.mk (by simp) ?_
          refine SemW.weak (T' := [(1, aint w), (2, aint e), (4, sP kn), (10, .ptr (.l 2) 0), (14, .ptr (.l 5) 0), (61, sP lf), (62, aint lf.length), (63, aint i), (81, .sl (.l 0) gn 2 0 b.length cn), (82, aint m), (84, aint ((m + 1 : Nat) : Int))]) (L' := [(0, .arr true gn 2 b.length (fun i => encP (b.getD i ⟨0, 0⟩))), (5, .obj [.val (.int .u64 gf), .bot]), (2, .obj [.val (.int .u64 0), nilS])])
            ⟨AvLe.refl _, AvLe.refl _, AvLe.refl _, AvLe.refl _, AvLe.refl _, AvLe.refl _, AvLe.refl _, AvLe.refl _, AvLe.refl _, AvLe.refl _, AvLe.of (incI (by omega)), trivial⟩ ⟨⟨_, rfl, BlkLe.refl _⟩, ⟨_, rfl, BlkLe.obj ⟨AvLe.refl _, fun _ _ _ _ => Rel.bot _, trivial⟩⟩, ⟨_, rfl, BlkLe.refl _⟩, trivial⟩ ?_
          refine SemW.callM [0] [(5, .obj [.val (.int .u64 gf), .bot]), (2, .obj [.val (.int .u64 0), nilS])] rfl rfl func49 rfl rfl rfl (by decide) (by decide) ⟨rfl, rfl, trivial⟩ rfl ?_
          refine delete_spec b gn cn m (m + 1) _ _ (by omega) hcn (by omega) (by omega) fun g3 cp3 hcp3 => ⟨Nat.le_of_ble_eq_true rfl, ?_⟩
          refine SemW.go tyT_ok mixed ?_
          conv => arg 6; whnf
          refine Holds.mk (by simp) ?_
          refine SemW.swap 0 3 ?_
          refine SemW.cutW ?_ ?_ (by decide) rfl rfl (IH' g3 cp3 hcp3)
          · exact ⟨AvLe.refl _, AvLe.refl _, AvLe.refl _, AvLe.refl _, AvLe.refl _, AvLe.refl _, AvLe.refl _, AvLe.refl _, AvLe.of (incI (by omega)), trivial⟩
          · exact ⟨⟨_, rfl, BlkLe.refl _⟩, ⟨_, rfl, BlkLe.refl _⟩, ⟨_, rfl, BlkLe.refl _⟩, trivial⟩
        · have d3' : ¬ 0 ≤ k := by simpa using d3
          rw [if_neg (fun h => d3' h.2)] at IH'
          refine SemW.go tyT_ok mixed ?_
          conv => arg 6; whnf
          refine Holds.mk (by simp) ?_
          refine SemW.cut ?_ ?_ (by decide) rfl rfl (IH' gn cn hcn)
          · exact ⟨rfl, rfl, rfl, rfl, rfl, rfl, rfl, rfl, incI (by omega), trivial⟩
          · exact ⟨rfl, rfl, rfl, trivial⟩
      · have d2' : ¬ (b.length : Int) > w := by simpa using d2
        rw [if_neg (fun h => d2' h.1)] at IH'
        refine SemW.go tyT_ok mixed ?_
        conv => arg 6; whnf
        refine Holds.mk (by simp) ?_
        refine SemW.condF rfl ?_
        refine SemW.go tyT_ok mixed ?_
        conv => arg 6; whnf
        refine Holds.mk (by simp) ?_
        refine SemW.cut ?_ ?_ (by decide) rfl rfl (IH' gn cn hcn)
        · exact ⟨rfl, rfl, rfl, rfl, rfl, rfl, rfl, rfl, incI (by omega), trivial⟩
        · exact ⟨rfl, rfl, rfl, trivial⟩
    · obtain rfl : i = lf.length := by simp at d1; omega
      have hl3 := hlen3 lf.length
      rw [List.take_length] at *
      clear IH hlen3
      generalize lf.foldl (rn2 w) (gb, so) = s at *
      obtain ⟨b, sm⟩ := s
      dsimp only at *
      refine SemW.go tyT_ok mixed ?_
      conv => arg 6; whnf
      refine Holds.mk (by simp) ?_
      refine SemW.cond rfl (fun d4 => ?_) (fun d4 => ?_)
      · have e0 : sm = false := by simpa using d4
        subst e0
        rw [if_neg (by simp)] at hQ
        refine SemW.go tyT_ok mixed ?_
        conv => arg 6; whnf
        refine Holds.mk (by simp) ?_
        refine SemW.weak (T' := [(10, .ptr (.l 2) 0), (11, abool false)]) (L' := [(2, .obj [.val (.int .u64 0), sP []])]) ⟨AvLe.refl _, AvLe.refl _, trivial⟩ ⟨⟨_, rfl, BlkLe.obj ⟨AvLe.refl _, AvLe.nil _ _ _ _, trivial⟩⟩, trivial⟩ ?_
        refine SemW.ret0 tyT_ok func28 rfl rfl rfl ?_
        exact hQ
      · have e0 : sm = true := by simpa using d4
        subst e0
        rw [if_pos rfl] at hQ
        refine SemW.go tyT_ok mixed ?_
        conv => arg 6; whnf
        refine Holds.mk (by simp) ?_
        refine SemW.loop (X := {x : Nat × Nat × Nat // x.1 ≤ kn.length ∧ ((kn.take x.1).foldl (rn3 e) b).length ≤ x.2.2}) (fun x => [(2, aint e), (10, .ptr (.l 2) 0), (14, .ptr (.l 5) 0), (91, sP kn), (92, aint kn.length), (93, aint x.1.1)])
          (fun x => [(0, .arr true x.1.2.1 2 ((kn.take x.1.1).foldl (rn3 e) b).length (fun i => encP (((kn.take x.1.1).foldl (rn3 e) b).getD i ⟨0, 0⟩))), (5, .obj [.val (.int .u64 gf), .sl (.l 0) x.1.2.1 2 0 ((kn.take x.1.1).foldl (rn3 e) b).length x.1.2.2]), (2, .obj [.val (.int .u64 0), nilS])]) (fun _ => [1, 3, 4, 6, 7, 8, 9]) (fun x => kn.length - x.1.1) ⟨(0, gn, cn), Nat.zero_le _, hcn⟩
          (SemW.cut ⟨rfl, rfl, rfl, rfl, rfl, rfl, trivial⟩ ⟨rfl, rfl, rfl, trivial⟩ (by decide) rfl rfl) (fun ⟨⟨j, gj, cj⟩, hj, hcj⟩ IH => ?_)
        dsimp only at hj hcj IH ⊢
        refine SemW.go tyT_ok mixed ?_
        conv => arg 6; whnf
        refine Holds.mk (by simp) ?_
        refine SemW.cond rfl (fun f1 => ?_) (fun f1 => ?_)
        · have hjl : j < kn.length := by simpa using f1
          have hst := foldl_take (rn3 e) b hjl
          have IH' := fun g' c' hc' => IH ⟨(j + 1, g', c'), hjl, hc'⟩ (by show kn.length - (j + 1) < kn.length - j; omega)
          dsimp only at IH'
          rw [hst] at IH'
          clear IH
          generalize (kn.take j).foldl (rn3 e) b = b' at *
          have hg : kn.getD j ⟨0, 0⟩ = kn[j] := by simp [hjl]
          rw [← hg] at IH'
          refine SemW.go tyT_ok mixed ?_
          conv => arg 6; whnf
          refine Holds.mk ((by simp; omega)) ?_
          have hmin : (if 5 < e then 5 else e) = min e 5 := by rw [Int.min_def]; split <;> split <;> omega
          have hrn : rn3 e b' (kn.getD j ⟨0, 0⟩) = if (decide ((b'.length : Int) < min e 5) && !(b'.any fun y => y.node == (kn.getD j ⟨0, 0⟩).node)) = true then b' ++ [kn.getD j ⟨0, 0⟩] else b' := rfl
          rw [hrn] at IH'
          refine SemW.split (fun f2 => ?_) (fun f2 => ?_)
          · have f2' : decide ((b'.length : Int) < min e 5) = true := by rw [← hmin]; exact f2
            rw [f2', Bool.true_and] at IH'
            have hb5 : b'.length < 5 := by
              have h1 : (b'.length : Int) < min e 5 := of_decide_eq_true f2'
              omega
            refine SemW.go tyT_ok mixed ?_
            conv => arg 6; whnf
            refine Holds.mk (by simp) ?_
            refine SemW.call0 rfl rfl func40 rfl rfl ?_
            refine SemC.view [sP b', .fn 50 [.vp true 2 (.agg [.val (.int .i64 (kn.getD j ⟨0, 0⟩).node), .val (.int .u64 (kn.getD j ⟨0, 0⟩).serial)]) 0]] ⟨AvLe.sP rfl (fun i _ => by rw [Nat.zero_add]), AvLe.refl _, trivial⟩ ⟨⟨Nat.le_of_eq (Nat.zero_add _), rfl⟩, ⟨trivial, trivial⟩, trivial⟩ ?_
            refine containsFunc_spec b' _ _ _ (fun y => y.node == (kn.getD j ⟨0, 0⟩).node) _ _ (by omega) rfl func50 rfl rfl (fun p _ h Q hQ => renew2_spec (kn.getD j ⟨0, 0⟩) p h Q hQ) ⟨rfl, trivial, rfl, rfl, _, rfl, rfl, rfl, ?_⟩
            refine SemW.go tyT_ok mixed ?_
            conv => arg 6; whnf
            refine Holds.mk (by simp) ?_
            refine SemW.cond rfl (fun f3 => ?_) (fun f3 => ?_)
            · rw [if_pos f3] at IH'
              refine SemW.go tyT_ok mixed ?_
              conv => arg 6; whnf
              refine Holds.mk ((by simp; omega)) ?_
              refine SemW.cutW ?_ ?_ (by decide) rfl rfl (IH' (gj + 1) (b'.length + 1) (by simp))
              · exact ⟨AvLe.refl _, AvLe.refl _, AvLe.refl _, AvLe.refl _, AvLe.refl _, AvLe.of (incI (by omega)), trivial⟩
              · exact ⟨⟨_, rfl, BlkLe.arr (by simp) (app1P rfl)⟩, ⟨_, rfl, BlkLe.obj ⟨AvLe.refl _, AvLe.sl (by simp) (by simp) (Nat.le_max_right _ _), trivial⟩⟩, ⟨_, rfl, BlkLe.refl _⟩, trivial⟩
            · rw [if_neg (by rw [f3]; simp)] at IH'
              refine SemW.go tyT_ok mixed ?_
              conv => arg 6; whnf
              refine Holds.mk (by simp) ?_
              refine SemW.cut ?_ ?_ (by decide) rfl rfl (IH' gj cj hcj)
              · exact ⟨rfl, rfl, rfl, rfl, rfl, incI (by omega), trivial⟩
              · exact ⟨rfl, rfl, rfl, trivial⟩
          · have f2' : decide ((b'.length : Int) < min e 5) = false := by rw [← hmin]; exact f2
            rw [f2', Bool.false_and, if_neg (by simp)] at IH'
            refine SemW.go tyT_ok mixed ?_
            conv => arg 6; whnf
            refine Holds.mk (by simp) ?_
            refine SemW.condF rfl ?_
            refine SemW.go tyT_ok mixed ?_
            conv => arg 6; whnf
            refine Holds.mk (by simp) ?_
            refine SemW.cut ?_ ?_ (by decide) rfl rfl (IH' gj cj hcj)
            · exact ⟨rfl, rfl, rfl, rfl, rfl, incI (by omega), trivial⟩
            · exact ⟨rfl, rfl, rfl, trivial⟩
        · obtain rfl : j = kn.length := by simp at f1; omega
          rw [List.take_length] at *
          clear IH
          generalize kn.foldl (rn3 e) b = b' at *
          refine SemW.go tyT_ok mixed ?_
          conv => arg 6; whnf
          refine Holds.mk (by simp) ?_
          refine SemW.frzW (T' := [(10, .ptr (.l 2) 0), (11, abool true)]) (L' := [(2, .obj [.val (.int .u64 gf), .vs true 2 b'.length _])]) 0 rfl rfl ⟨AvLe.refl _, trivial, AvLe.refl _, trivial, trivial⟩ ⟨rfl, ⟨rfl, trivial, ⟨Nat.le_of_eq (Nat.zero_add _), rfl⟩, trivial⟩, trivial⟩ ?_
          refine SemW.weak (T' := [(10, .ptr (.l 2) 0), (11, abool true)]) (L' := [(2, .obj [.val (.int .u64 gf), sP b'])]) ⟨AvLe.refl _, AvLe.refl _, trivial⟩ ⟨⟨_, rfl, BlkLe.obj ⟨AvLe.refl _, AvLe.sP rfl (fun q hq => by rw [Nat.zero_add]), trivial⟩⟩, trivial⟩ ?_
          refine SemW.ret0 tyT_ok func28 rfl rfl rfl ?_
          exact hQ
end Go.Proofs.Try
set_option linter.unusedVariables false
set_option linter.unusedSimpArgs false
open Go Go.AM
namespace Go.Proofs.Try
set_option maxRecDepth 100000
structure Vp (b : List Pl) : Prop where
  pl : ∀ p ∈ b, placeB p = true
  ne : b.Pairwise fun x y => x.node ≠ y.node
theorem Vp.of_may {w x : Int} {b : List Pl} (h : mayB w [⟨x, b⟩] = true) : Vp b := by
  obtain ⟨_, _, h3, h4⟩ := mayB_facts h
  refine ⟨fun p hp => ?_, ?_⟩
  · obtain ⟨i, hi, rfl⟩ := List.getElem_of_mem hp
    have := h3 i hi
    simpa [hi] using this
  · rw [List.pairwise_iff_getElem]
    intro i j hi hj hij
    have := h4 j hj i hij
    simpa [hi, hj] using this
theorem Vp.may {w : Int} {b : List Pl} (h : Vp b) (h1 : w ≤ b.length) (h2 : b.length ≤ 5) : mayB w [⟨1, b⟩] = true := by
  have hb : booksB b b.length = true := by
    unfold booksB
    rw [List.all_eq_true]
    intro q hq
    have hq' : q < b.length := by simpa using hq
    have e1 : b.getD q P0 = b[q] := by simp [hq']
    rw [e1, h.pl _ (List.getElem_mem hq'), Bool.true_and]
    unfold unlikeB
    rw [List.all_eq_true]
    intro j hj
    have hj' : j < q := by simpa using hj
    have e2 : b.getD j P0 = b[j] := by simp [show j < b.length by omega]
    rw [e2, e1]
    have := List.pairwise_iff_getElem.1 h.ne j q (by omega) hq' hj'
    simp [this]
  have e0 : ([⟨1, b⟩] : List Fr).getD 0 F0 = ⟨1, b⟩ := rfl
  have hf : fragB w [⟨1, b⟩] 0 = true := by
    unfold fragB
    rw [e0]
    dsimp only
    rw [hb]
    simp
    omega
  unfold mayB
  rw [e0]
  simp [hf]
theorem Vp.nodup {b : List Pl} (h : Vp b) : b.Nodup := h.ne.imp fun h e => h (by rw [e])
theorem Vp.sub {a b : List Pl} (h : Vp b) (hs : a.Sublist b) : Vp a := ⟨fun p hp => h.pl p (hs.subset hp), h.ne.sublist hs⟩
theorem Vp.mid {l1 l2 : List Pl} {x : Pl} (h : Vp (l1 ++ l2)) (hx : placeB x = true) (hn : ∀ y ∈ l1 ++ l2, y.node ≠ x.node) : Vp (l1 ++ x :: l2) := by
  refine ⟨fun p hp => ?_, ?_⟩
  · rcases List.mem_append.1 hp with h1 | h1
    · exact h.pl p (List.mem_append.2 (.inl h1))
    · rcases List.mem_cons.1 h1 with rfl | h1
      · exact hx
      · exact h.pl p (List.mem_append.2 (.inr h1))
  · have h0 := List.pairwise_append.1 h.ne
    refine List.pairwise_append.2 ⟨h0.1, List.pairwise_cons.2 ⟨fun y hy e => hn y (List.mem_append.2 (.inr hy)) e.symm, h0.2.1⟩, fun a ha c hc => ?_⟩
    rcases List.mem_cons.1 hc with rfl | hc
    · exact hn a (List.mem_append.2 (.inl ha))
    · exact h0.2.2 a ha c hc
theorem sub_mid {α : Type} (l1 l2 : List α) (x : α) : (l1 ++ l2).Sublist (l1 ++ x :: l2) := List.Sublist.append_left (List.sublist_cons_self x l2) l1
theorem Vp.other {l1 l2 : List Pl} {x : Pl} (h : Vp (l1 ++ x :: l2)) : ∀ y ∈ l1 ++ l2, y.node ≠ x.node := by
  intro y hy
  have h0 := List.pairwise_append.1 h.ne
  rcases List.mem_append.1 hy with h1 | h1
  · exact h0.2.2 y h1 x (List.mem_cons_self ..)
  · exact fun e => (List.pairwise_cons.1 h0.2.1).1 y h1 e.symm
theorem idxF_split {b : List Pl} {old : Pl} (h : old ∈ b) : ∃ k : Nat, idxF b (· == old) = k ∧ k < b.length ∧ b = b.take k ++ old :: b.drop (k + 1) := by
  have hl : b.findIdx (· == old) < b.length := List.findIdx_lt_length_of_exists ⟨old, h, by simp⟩
  refine ⟨b.findIdx (· == old), by unfold idxF; rw [if_pos hl], hl, ?_⟩
  have he : b[b.findIdx (· == old)] = old := by
    have := List.findIdx_getElem (w := hl) (p := (· == old))
    exact eq_of_beq this
  conv => lhs; rw [← List.take_append_drop (b.findIdx (· == old)) b, List.drop_eq_getElem_cons hl, he]
theorem otherB_iff {b : List Pl} {k : Nat} {x old : Pl} (hk : k < b.length) (hs : b = b.take k ++ old :: b.drop (k + 1)) : otherB b k x b.length = true ↔ ∃ y ∈ b.take k ++ b.drop (k + 1), y.node = x.node := by
  unfold otherB
  rw [List.any_eq_true]
  constructor
  · rintro ⟨i, hi, hp⟩
    have hi' : i < b.length := by simpa using hi
    have e1 : b.getD i P0 = b[i] := by simp [hi']
    rw [e1] at hp
    simp at hp
    refine ⟨b[i], ?_, hp.2⟩
    rw [List.mem_append]
    by_cases h : i < k
    · exact .inl (List.mem_iff_getElem.2 ⟨i, by simp; omega, by simp⟩)
    · exact .inr (List.mem_iff_getElem.2 ⟨i - (k + 1), by simp; omega, by simp; congr 1; omega⟩)
  · rintro ⟨y, hy, he⟩
    rcases List.mem_append.1 hy with h | h
    · obtain ⟨i, hi, rfl⟩ := List.getElem_of_mem h
      have hi' : i < k ∧ i < b.length := by simp at hi; omega
      refine ⟨i, by simp; omega, ?_⟩
      rw [show b.getD i P0 = b[i] by simp [hi'.2]]
      simp at he ⊢
      exact ⟨by omega, he⟩
    · obtain ⟨i, hi, rfl⟩ := List.getElem_of_mem h
      have hi' : k + 1 + i < b.length := by simp at hi; omega
      refine ⟨k + 1 + i, by simp; omega, ?_⟩
      rw [show b.getD (k + 1 + i) P0 = b[k + 1 + i] by simp [hi']]
      simp at he ⊢
      exact ⟨by omega, he⟩
theorem swapF_ok {f : Fr} {old x : Pl} (hm : old ∈ f.books) (h : (swapF f old x).2 = true) : ∃ l1 l2, f.books = l1 ++ old :: l2 ∧ (swapF f old x).1 = ⟨f.first, l1 ++ x :: l2⟩ ∧ ∀ y ∈ l1 ++ l2, y.node ≠ x.node := by
  obtain ⟨k, hk, hkl, hs⟩ := idxF_split hm
  revert h
  unfold swapF
  rw [hk]
  split
  · intro h; cases h
  · rename_i ho
    rw [if_neg (by omega)]
    intro _
    refine ⟨_, _, hs, ?_, fun y hy e => ho ((otherB_iff hkl hs).2 ⟨y, hy, e⟩)⟩
    dsimp only
    rw [Int.toNat_natCast, List.set_eq_take_append_cons_drop, if_pos hkl]
theorem swapF_no {f : Fr} {old x : Pl} (hm : old ∈ f.books) (h : (swapF f old x).2 = false) : ∃ l1 l2, f.books = l1 ++ old :: l2 ∧ ∃ y ∈ l1 ++ l2, y.node = x.node := by
  obtain ⟨k, hk, hkl, hs⟩ := idxF_split hm
  revert h
  unfold swapF
  rw [hk]
  split
  · rename_i ho
    intro _
    exact ⟨_, _, hs, (otherB_iff hkl hs).1 ho⟩
  · rw [if_neg (by omega)]
    intro h; cases h
theorem replacedF_ok {f : Fr} {old : Pl} (hm : old ∈ f.books) : ∀ {l : List Pl}, (replacedF f old l).2 = true → ∃ x ∈ l, ∃ l1 l2, f.books = l1 ++ old :: l2 ∧ (replacedF f old l).1 = ⟨f.first, l1 ++ x :: l2⟩ ∧ ∀ y ∈ l1 ++ l2, y.node ≠ x.node
  | [], h => by cases h
  | x :: l, h => by
    unfold replacedF at h ⊢
    split at h
    · rename_i hs
      rw [if_pos hs]
      obtain ⟨l1, l2, h1, h2, h3⟩ := swapF_ok hm hs
      exact ⟨x, List.mem_cons_self .., l1, l2, h1, h2, h3⟩
    · rename_i hs
      rw [if_neg hs]
      obtain ⟨x', hx', r⟩ := replacedF_ok hm h
      exact ⟨x', List.mem_cons_of_mem _ hx', r⟩
theorem replacedF_no {f : Fr} {old : Pl} (hm : old ∈ f.books) : ∀ {l : List Pl}, (replacedF f old l).2 = false → (replacedF f old l).1 = f ∧ ∀ x ∈ l, ∃ l1 l2, f.books = l1 ++ old :: l2 ∧ ∃ y ∈ l1 ++ l2, y.node = x.node
  | [], _ => ⟨rfl, fun x hx => by cases hx⟩
  | x :: l, h => by
    unfold replacedF at h ⊢
    split at h
    · cases h
    · rename_i hs
      rw [if_neg hs]
      obtain ⟨h1, h2⟩ := replacedF_no hm h
      refine ⟨h1, fun x' hx' => ?_⟩
      rcases List.mem_cons.1 hx' with rfl | hx'
      · exact swapF_no hm (by simpa using hs)
      · exact h2 x' hx'
structure I1 (fi : Int) (bk kn bad rest : List Pl) (s : Fr × Bool × List Pl) : Prop where
  fi : s.1.first = fi
  v : Vp s.1.books
  restm : ∀ r ∈ rest, r ∈ s.1.books
  restn : rest.Nodup
  bd : ∀ y ∈ s.1.books, badB bad y = true → y ∈ s.2.2 ∨ y ∈ rest
  lm : ∀ y ∈ s.2.2, y ∈ s.1.books ∧ badB bad y = true ∧ y ∉ rest ∧ ∀ x ∈ kn, x.node ≠ y.node
  ln : s.2.2.Nodup
  cov : s.2.2 ≠ [] → ∀ x ∈ kn, ∃ y ∈ s.1.books, y.node = x.node
  sub : (keptL bk (badB bad)).Sublist s.1.books
theorem kept_mid {l a b : List Pl} {bad : List Pl} {y : Pl} (hy : badB bad y = true) (h : (keptL l (badB bad)).Sublist (a ++ y :: b)) : (keptL l (badB bad)).Sublist (a ++ b) := by
  have h1 := h.filter (fun p => !(badB bad p))
  have e : (keptL l (badB bad)).filter (fun p => !(badB bad p)) = keptL l (badB bad) := by
    unfold keptL
    rw [List.filter_filter]
    simp
  rw [e, List.filter_append, List.filter_cons_of_neg (by simp [hy]), ← List.filter_append] at h1
  exact h1.trans (List.filter_sublist)
theorem I1.step {fi : Int} {bk kn bad rest : List Pl} {old : Pl} {s : Fr × Bool × List Pl} (hk : ∀ x ∈ kn, badB bad x = false ∧ placeB x = true) (h : I1 fi bk kn bad (old :: rest) s) : I1 fi bk kn bad rest (rn1 kn bad s old) := by
  obtain ⟨hr, hrn⟩ := List.nodup_cons.1 h.restn
  have hm := h.restm old (List.mem_cons_self ..)
  unfold rn1
  split
  · rename_i hb
    obtain ⟨f, so, lf⟩ := s
    have hfi := h.fi
    have hv := h.v
    have hbad := h.bd
    have hlm := h.lm
    have hcov := h.cov
    have hsub := h.sub
    have hrm := h.restm
    have hln := h.ln
    dsimp only at *
    cases ho : (replacedF f old kn).2 with
    | true =>
      obtain ⟨x, hx, l1, l2, h1, h2, h3⟩ := replacedF_ok hm ho
      rw [h2]
      simp only [if_pos]
      rw [h1] at hv hbad hlm hcov hsub hrm
      have hother := hv.other
      have mem_ne : ∀ {y : Pl}, y ∈ l1 ++ old :: l2 → y ≠ old → y ∈ l1 ++ l2 := fun {y} hy hne => by
        rcases List.mem_append.1 hy with h | h
        · exact List.mem_append.2 (.inl h)
        · rcases List.mem_cons.1 h with e | h
          · exact absurd e hne
          · exact List.mem_append.2 (.inr h)
      have up : ∀ {y z : Pl}, y ∈ l1 ++ l2 → y ∈ l1 ++ z :: l2 := fun {y z} hy => (sub_mid l1 l2 z).subset hy
      refine ⟨hfi, (hv.sub (sub_mid ..)).mid (hk x hx).2 h3, fun r hr' => up (mem_ne (hrm r (List.mem_cons_of_mem _ hr')) fun e => hr (e ▸ hr')), hrn, fun y hy hby => ?_, fun y hy => ?_, hln, fun hne x' hx' => ?_, (kept_mid hb hsub).trans (sub_mid ..)⟩
      · by_cases e : y = x
        · subst e
          rw [(hk y hx).1] at hby
          cases hby
        · have hy' : y ∈ l1 ++ l2 := by
            rcases List.mem_append.1 hy with h | h
            · exact List.mem_append.2 (.inl h)
            · rcases List.mem_cons.1 h with e' | h
              · exact absurd e' e
              · exact List.mem_append.2 (.inr h)
          rcases hbad y (up hy') hby with h | h
          · exact .inl h
          · rcases List.mem_cons.1 h with e' | h
            · exact absurd (by rw [e']) (hother y hy')
            · exact .inr h
      · obtain ⟨a1, a2, a3, a4⟩ := hlm y hy
        exact ⟨up (mem_ne a1 fun e => a3 (e ▸ List.mem_cons_self ..)), a2, fun h => a3 (List.mem_cons_of_mem _ h), a4⟩
      · obtain ⟨y, hy, he⟩ := hcov hne x' hx'
        by_cases e : y = old
        · obtain ⟨y2, hy2, he2⟩ := hcov hne x hx
          have : y2 = old := Classical.byContradiction fun hne2 => h3 y2 (mem_ne hy2 hne2) he2
          refine ⟨x, List.mem_append.2 (.inr (List.mem_cons_self ..)), ?_⟩
          rw [← he2, this, ← e, he]
        · exact ⟨y, up (mem_ne hy e), he⟩
    | false =>
      obtain ⟨h1, h2⟩ := replacedF_no hm ho
      rw [h1]
      simp only [Bool.false_eq_true, if_false]
      have ho' : ∀ x ∈ kn, x.node ≠ old.node := fun x hx e => by
        obtain ⟨l1, l2, a1, y, hy, he⟩ := h2 x hx
        rw [a1] at hv
        exact hv.other y hy (by rw [he, e])
      refine ⟨hfi, hv, fun r hr' => hrm r (List.mem_cons_of_mem _ hr'), hrn, fun y hy hby => ?_, fun y hy => ?_, ?_, fun _ x hx => ?_, hsub⟩
      · rcases hbad y hy hby with h | h
        · exact .inl (List.mem_append.2 (.inl h))
        · rcases List.mem_cons.1 h with e | h
          · exact .inl (List.mem_append.2 (.inr (by simp [e])))
          · exact .inr h
      · rcases List.mem_append.1 hy with h | h
        · obtain ⟨a1, a2, a3, a4⟩ := hlm y h
          exact ⟨a1, a2, fun h => a3 (List.mem_cons_of_mem _ h), a4⟩
        · have e : y = old := by simpa using h
          subst e
          exact ⟨hm, hb, hr, ho'⟩
      · refine List.nodup_append.2 ⟨hln, by simp, fun a ha c hc e => ?_⟩
        have e' : c = old := by simpa using hc
        subst e'
        subst e
        exact (hlm a ha).2.2.1 (List.mem_cons_self ..)
      · obtain ⟨l1, l2, a1, y, hy, he⟩ := h2 x hx
        exact ⟨y, by rw [a1]; exact (sub_mid l1 l2 old).subset hy, he⟩
  · rename_i hb
    refine ⟨h.fi, h.v, fun r hr' => h.restm r (List.mem_cons_of_mem _ hr'), hrn, fun y hy hby => ?_, fun y hy => ?_, h.ln, h.cov, h.sub⟩
    · rcases h.bd y hy hby with h | h
      · exact .inl h
      · rcases List.mem_cons.1 h with e | h
        · subst e
          exact absurd hby hb
        · exact .inr h
    · obtain ⟨a1, a2, a3, a4⟩ := h.lm y hy
      exact ⟨a1, a2, fun h => a3 (List.mem_cons_of_mem _ h), a4⟩
theorem I1.all {fi : Int} {bk kn bad : List Pl} (hk : ∀ x ∈ kn, badB bad x = false ∧ placeB x = true) : ∀ (rest : List Pl) {s : Fr × Bool × List Pl}, I1 fi bk kn bad rest s → I1 fi bk kn bad [] (rest.foldl (rn1 kn bad) s)
  | [], _, h => h
  | _ :: rest, _, h => I1.all hk rest (h.step hk)
theorem rn2_split {w : Int} {b : List Pl} {so : Bool} {old : Pl} : (rn2 w (b, so) old = (b, so) ∧ ¬ ((b.length : Int) > w ∧ old ∈ b)) ∨ ((b.length : Int) > w ∧ ∃ l1 l2, b = l1 ++ old :: l2 ∧ rn2 w (b, so) old = (l1 ++ l2, true)) := by
  unfold rn2
  split
  · rename_i h
    right
    have hm : old ∈ b := by
      refine Classical.byContradiction fun hn => ?_
      have h2 := h.2
      have h3 : b.findIdx (· == old) = b.length := List.findIdx_eq_length_of_false fun x hx => by
        simp
        exact fun e => hn (e ▸ hx)
      unfold idxF at h2
      dsimp only at h2
      rw [h3, if_neg (by omega)] at h2
      omega
    obtain ⟨k, hk, _, hs⟩ := idxF_split hm
    refine ⟨h.1, _, _, hs, ?_⟩
    dsimp only
    rw [hk, Int.toNat_natCast]
  · rename_i h
    left
    refine ⟨rfl, fun ⟨h1, h2⟩ => h ⟨h1, ?_⟩⟩
    obtain ⟨k, hk, _, _⟩ := idxF_split h2
    dsimp only
    omega
structure I2 (w : Int) (bk bad : List Pl) (b : List Pl) : Prop where
  v : Vp b
  w : w ≤ b.length
  l5 : b.length ≤ 5
  sub : (keptL bk (badB bad)).Sublist b
theorem I2.step {w : Int} {bk bad b : List Pl} {so : Bool} {old : Pl} (h : I2 w bk bad b) (ho : badB bad old = true) : I2 w bk bad (rn2 w (b, so) old).1 := by
  rcases rn2_split (w := w) (b := b) (so := so) (old := old) with ⟨e, _⟩ | ⟨hw, l1, l2, rfl, e⟩
  · rw [e]; exact h
  · rw [e]
    have hl := h.l5
    have hlen : (l1 ++ old :: l2).length = (l1 ++ l2).length + 1 := by simp; omega
    exact ⟨h.v.sub (sub_mid ..), by dsimp only; omega, by dsimp only; omega, kept_mid ho h.sub⟩
theorem I2.all {w : Int} {bk bad : List Pl} : ∀ (l : List Pl) {b : List Pl} {so : Bool}, (∀ y ∈ l, badB bad y = true) → I2 w bk bad b → I2 w bk bad (l.foldl (rn2 w) (b, so)).1
  | [], _, _, _, h => h
  | x :: l, b, so, hl, h => by
    have h1 := h.step (so := so) (hl x (List.mem_cons_self ..))
    rw [List.foldl_cons]
    generalize rn2 w (b, so) x = s at *
    obtain ⟨b', so'⟩ := s
    exact I2.all l (fun y hy => hl y (List.mem_cons_of_mem _ hy)) h1
theorem noBad {w : Int} {bad : List Pl} : ∀ (l : List Pl) {b : List Pl} {so : Bool}, Vp b → l.Nodup → (∀ y ∈ l, y ∈ b) → (∀ y ∈ b, badB bad y = true → y ∈ l) → w + l.length ≤ b.length → ∀ y ∈ (l.foldl (rn2 w) (b, so)).1, badB bad y = false
  | [], b, so, _, _, _, h4, _ => fun y hy => by
    cases hb : badB bad y with
    | false => rfl
    | true => cases h4 y hy hb
  | x :: l, b, so, h1, h2, h3, h4, h5 => by
    obtain ⟨hr, hn⟩ := List.nodup_cons.1 h2
    simp only [List.length_cons] at h5
    rw [List.foldl_cons]
    rcases rn2_split (w := w) (b := b) (so := so) (old := x) with ⟨_, e⟩ | ⟨hw, l1, l2, rfl, e⟩
    · exact absurd ⟨by omega, h3 x (List.mem_cons_self ..)⟩ e
    · rw [e]
      have hother := h1.other
      refine noBad l (h1.sub (sub_mid ..)) hn (fun y hy => ?_) (fun y hy hb => ?_) ?_
      · have := h3 y (List.mem_cons_of_mem _ hy)
        rcases List.mem_append.1 this with h | h
        · exact List.mem_append.2 (.inl h)
        · rcases List.mem_cons.1 h with e | h
          · exact absurd (e ▸ hy) hr
          · exact List.mem_append.2 (.inr h)
      · rcases List.mem_cons.1 (h4 y ((sub_mid ..).subset hy) hb) with e | h
        · exact absurd (by rw [e]) (hother y hy)
        · exact h
      · have hlen : (l1 ++ x :: l2).length = (l1 ++ l2).length + 1 := by simp; omega
        omega
theorem rn3_ok {e w : Int} {bk bad : List Pl} : ∀ (l : List Pl) {b : List Pl}, (∀ x ∈ l, badB bad x = false ∧ placeB x = true) → I2 w bk bad b → I2 w bk bad (l.foldl (rn3 e) b) ∧ ((∀ y ∈ b, badB bad y = false) → ∀ y ∈ l.foldl (rn3 e) b, badB bad y = false)
  | [], _, _, h => ⟨h, fun h => h⟩
  | x :: l, b, hl, h => by
    rw [List.foldl_cons]
    have hx := hl x (List.mem_cons_self ..)
    have hl' := fun y hy => hl y (List.mem_cons_of_mem _ hy)
    have h1 : I2 w bk bad (rn3 e b x) ∧ ((∀ y ∈ b, badB bad y = false) → ∀ y ∈ rn3 e b x, badB bad y = false) := by
      unfold rn3
      split
      · rename_i hc
        simp only [Bool.and_eq_true, decide_eq_true_eq, Bool.not_eq_true'] at hc
        have hc5 : (b.length : Int) < 5 := by omega
        have hw := h.w
        refine ⟨⟨?_, by simp; omega, by simp; omega, h.sub.trans (List.sublist_append_left ..)⟩, fun hb y hy => ?_⟩
        · have h0 : Vp (b ++ []) := by rw [List.append_nil]; exact h.v
          refine h0.mid hx.2 fun y hy => ?_
          rw [List.append_nil] at hy
          have := List.any_eq_false.1 hc.2 y hy
          simpa using this
        · rcases List.mem_append.1 hy with h | h
          · exact hb y h
          · have : y = x := by simpa using h
            rw [this]; exact hx.1
      · exact ⟨h, fun h => h⟩
    obtain ⟨h2, h3⟩ := h1
    obtain ⟨h4, h5⟩ := rn3_ok (e := e) l hl' h2
    exact ⟨h4, fun h => h5 (h3 h)⟩
theorem nodup_len {α : Type} [DecidableEq α] : ∀ {a b : List α}, a.Nodup → a ⊆ b → a.length ≤ b.length
  | [], _, _, _ => Nat.zero_le _
  | x :: a, b, h, hs => by
    obtain ⟨h1, h2⟩ := List.nodup_cons.1 h
    have hx : x ∈ b := hs (List.mem_cons_self ..)
    have := nodup_len (a := a) (b := b.erase x) h2 fun y hy => (List.mem_erase_of_ne (show y ≠ x from fun e => h1 (by rw [← e]; exact hy))).2 (hs (List.mem_cons_of_mem _ hy))
    rw [List.length_erase_of_mem hx] at this
    have hpos : 0 < b.length := List.length_pos_of_mem hx
    simp only [List.length_cons]
    omega
theorem renew_fresh {fi w e : Int} {bk bad known : List Pl} (hm : mayB w [⟨1, bk⟩] = true) (hk : mayB 0 [⟨1, known⟩] = true) (hok : (renewF ⟨fi, bk⟩ w e bad known).2 = true) :
    (renewF ⟨fi, bk⟩ w e bad known).1.first = fi ∧ I2 w bk bad (renewF ⟨fi, bk⟩ w e bad known).1.books ∧ (w ≤ (keptL known (badB bad)).length → ∀ y ∈ (renewF ⟨fi, bk⟩ w e bad known).1.books, badB bad y = false) := by
  have hv := Vp.of_may hm
  have hvk := Vp.of_may hk
  have hf := mayB_facts hm
  have hkn : ∀ x ∈ keptL known (badB bad), badB bad x = false ∧ placeB x = true := fun x hx => by
    have := List.mem_filter.1 hx
    exact ⟨by simpa using this.2, hvk.pl x this.1⟩
  have hknv : Vp (keptL known (badB bad)) := hvk.sub List.filter_sublist
  revert hok
  unfold renewF
  dsimp only
  generalize keptL known (badB bad) = kn at *
  have i1 : I1 fi bk kn bad [] (bk.foldl (rn1 kn bad) (⟨fi, bk⟩, false, [])) := I1.all hkn bk ⟨rfl, hv, fun r h => h, hv.nodup, fun y hy _ => .inr hy, (fun y hy => by cases hy), List.nodup_nil, fun h => absurd rfl h, List.filter_sublist⟩
  have hlen := (rn1_len kn bad bk (⟨fi, bk⟩, false, [])).1
  generalize bk.foldl (rn1 kn bad) (⟨fi, bk⟩, false, []) = s1 at *
  obtain ⟨⟨f1, b1⟩, so, lf⟩ := s1
  have a1 := i1.fi
  have a2 := i1.v
  have a3 := i1.bd
  have a4 := i1.lm
  have a5 := i1.ln
  have a6 := i1.cov
  have a7 := i1.sub
  dsimp only at *
  split
  · intro _
    have i2 : I2 w bk bad (lf.foldl (rn2 w) (b1, so)).1 := I2.all lf (fun y hy => (a4 y hy).2.1) ⟨a2, by omega, by omega, a7⟩
    obtain ⟨i3, n3⟩ := rn3_ok (e := e) kn hkn i2
    refine ⟨a1, i3, fun hw => n3 ?_⟩
    cases lf with
    | nil =>
      intro y hy
      cases hb : badB bad y with
      | false => rfl
      | true => rcases a3 y hy hb with h | h <;> cases h
    | cons y0 lf' =>
      generalize hlf : y0 :: lf' = lf at *
      refine noBad lf a2 a5 (fun y hy => (a4 y hy).1) (fun y hy hb => (a3 y hy hb).resolve_right (fun h => by cases h)) ?_
      have hcov := a6 (by rw [← hlf]; simp)
      have hsub : (kn ++ lf).map (·.node) ⊆ b1.map (·.node) := by
        intro n hn
        obtain ⟨x, hx, rfl⟩ := List.mem_map.1 hn
        rcases List.mem_append.1 hx with h | h
        · obtain ⟨y, hy, he⟩ := hcov x h
          exact List.mem_map.2 ⟨y, hy, he⟩
        · exact List.mem_map.2 ⟨x, (a4 x h).1, rfl⟩
      have hnd : ((kn ++ lf).map (·.node)).Nodup := by
        rw [List.map_append]
        refine List.nodup_append.2 ⟨List.pairwise_map.2 hknv.ne, List.pairwise_map.2 ?_, fun a ha c hc e => ?_⟩
        · refine List.Pairwise.imp_of_mem (fun {x y} hx hy hne => ?_) a5
          intro he
          obtain ⟨i, hi, rfl⟩ := List.getElem_of_mem (a4 x hx).1
          obtain ⟨j, hj, rfl⟩ := List.getElem_of_mem (a4 y hy).1
          have hp := List.pairwise_iff_getElem.1 a2.ne
          rcases Nat.lt_trichotomy i j with h | h | h
          · exact hp i j hi hj h he
          · subst h; exact hne rfl
          · exact hp j i hj hi h he.symm
        · obtain ⟨x, hx, rfl⟩ := List.mem_map.1 ha
          obtain ⟨y, hy, rfl⟩ := List.mem_map.1 hc
          exact (a4 y hy).2.2.2 x hx e
      have := nodup_len hnd hsub
      simp at this
      omega
  · intro h; cases h
end Go.Proofs.Try
set_option linter.unusedVariables false
set_option linter.unusedSimpArgs false
open Go Go.AM
namespace Go.Proofs.Try
set_option maxRecDepth 100000
set_option maxHeartbeats 8000000
theorem longB_false {l : List Fr} {w : Int} {rows : List (List Pl)} (h : longB l w rows = false) : ∀ r ∈ rows, r.length ≤ 60 := by
  unfold longB at h
  simp only [Bool.or_eq_false_iff] at h
  intro r hr
  obtain ⟨i, hi, rfl⟩ := List.getElem_of_mem hr
  have := List.any_eq_false.1 h.2.2 i (by simpa using hi)
  simp [hi] at this
  omega
theorem sub_ne {α : Type} {a b : α} {l m : List α} (h : a ≠ b) (hs : (a :: l).Sublist (b :: m)) : (a :: l).Sublist m := by
  cases hs with
  | cons _ h => exact h
  | cons_cons _ h' => exact absurd rfl h
theorem fresh_spec (fi : Int) (bk : List Pl) (w e : Int) (bad known : List Pl) (h : Hp) (Q : AV → Hp → List Blk → Prop) (hQ : Q (abool true) h []) : SemC Try.prog 9 [encF ⟨fi, bk⟩, aint w, aint e, sP bad, sP known] h Q := by
  refine SemC.enter func9 rfl (Nat.le_of_ble_eq_true rfl) fresh fresh_nodup ?_
  refine SemW.go tyT_ok mixed ?_
  conv => arg 6; whnf
  refine Holds.mk (by simp) ?_
  refine SemW.call0 rfl rfl func10 rfl rfl ?_
  refine SemC.view [sF [⟨fi, bk⟩], aint w, sR [bad, known]] ⟨AvLe.vs rfl (fun i hi => by have e : i = 0 := (by omega); subst e; rfl), AvLe.refl _, AvLe.vs rfl (fun i hi => by rcases i with _ | _ | i <;> first | rfl | omega), trivial⟩ ⟨⟨by decide, rfl⟩, trivial, ⟨by decide, rfl⟩, trivial⟩ ?_
  refine long_spec [⟨fi, bk⟩] w [bad, known] _ _ (by simp) (by simp) ⟨rfl, trivial, rfl, rfl, _, rfl, rfl, rfl, ?_⟩
  refine SemW.go tyT_ok mixed ?_
  conv => arg 6; whnf
  refine Holds.mk (by simp) ?_
  refine SemW.split (fun s1 => ?_) (fun s1 => ?_)
  · refine SemW.go tyT_ok mixed ?_
    conv => arg 6; whnf
    refine Holds.mk (by simp) ?_
    refine SemW.go tyT_ok mixed ?_
    conv => arg 6; whnf
    refine Holds.mk (by simp) ?_
    refine SemW.go tyT_ok mixed ?_
    conv => arg 6; whnf
    refine Holds.mk (by simp) ?_
    refine SemW.go tyT_ok mixed ?_
    conv => arg 6; whnf
    refine Holds.mk (by simp) ?_
    refine SemW.condT rfl ?_
    refine SemW.go tyT_ok mixed ?_
    conv => arg 6; whnf
    refine Holds.mk (by simp) ?_
    refine SemW.call0 rfl rfl func12 rfl rfl ?_
    refine awake_spec _ _ ⟨rfl, rfl, _, rfl, rfl, rfl, ?_⟩
    refine SemW.go tyT_ok mixed ?_
    conv => arg 6; whnf
    refine Holds.mk (by simp) ?_
    refine SemW.ret0 tyT_ok func9 rfl rfl rfl ?_
    exact hQ
  · refine SemW.go tyT_ok mixed ?_
    conv => arg 6; whnf
    refine Holds.mk (by simp) ?_
    refine SemW.call0 rfl rfl func11 rfl rfl ?_
    refine SemC.view [aint w, sF [⟨1, bk⟩]] ⟨AvLe.refl _, AvLe.vs rfl (fun i hi => by have e : i = 0 := (by omega); subst e; rfl), trivial⟩ ⟨trivial, ⟨by decide, rfl⟩, trivial⟩ ?_
    refine mayFrags_spec w [⟨1, bk⟩] _ _ (by simp) ⟨rfl, trivial, rfl, rfl, _, rfl, rfl, rfl, ?_⟩
    refine SemW.go tyT_ok mixed ?_
    conv => arg 6; whnf
    refine Holds.mk (by simp) ?_
    refine SemW.split (fun s2 => ?_) (fun s2 => ?_)
    · refine SemW.go tyT_ok mixed ?_
      conv => arg 6; whnf
      refine Holds.mk (by simp) ?_
      refine SemW.go tyT_ok mixed ?_
      conv => arg 6; whnf
      refine Holds.mk (by simp) ?_
      refine SemW.go tyT_ok mixed ?_
      conv => arg 6; whnf
      refine Holds.mk (by simp) ?_
      refine SemW.condT rfl ?_
      refine SemW.go tyT_ok mixed ?_
      conv => arg 6; whnf
      refine Holds.mk (by simp) ?_
      refine SemW.call0 rfl rfl func12 rfl rfl ?_
      refine awake_spec _ _ ⟨rfl, rfl, _, rfl, rfl, rfl, ?_⟩
      refine SemW.go tyT_ok mixed ?_
      conv => arg 6; whnf
      refine Holds.mk (by simp) ?_
      refine SemW.ret0 tyT_ok func9 rfl rfl rfl ?_
      exact hQ
    · refine SemW.go tyT_ok mixed ?_
      conv => arg 6; whnf
      refine Holds.mk (by simp) ?_
      refine SemW.split (fun s3 => ?_) (fun s3 => ?_)
      · refine SemW.go tyT_ok mixed ?_
        conv => arg 6; whnf
        refine Holds.mk (by simp) ?_
        refine SemW.go tyT_ok mixed ?_
        conv => arg 6; whnf
        refine Holds.mk (by simp) ?_
        refine SemW.condT rfl ?_
        refine SemW.go tyT_ok mixed ?_
        conv => arg 6; whnf
        refine Holds.mk (by simp) ?_
        refine SemW.call0 rfl rfl func12 rfl rfl ?_
        refine awake_spec _ _ ⟨rfl, rfl, _, rfl, rfl, rfl, ?_⟩
        refine SemW.go tyT_ok mixed ?_
        conv => arg 6; whnf
        refine Holds.mk (by simp) ?_
        refine SemW.ret0 tyT_ok func9 rfl rfl rfl ?_
        exact hQ
      · refine SemW.go tyT_ok mixed ?_
        conv => arg 6; whnf
        refine Holds.mk (by simp) ?_
        refine SemW.call0 rfl rfl func11 rfl rfl ?_
        refine SemC.view [aint 0, sF [⟨1, known⟩]] ⟨AvLe.refl _, AvLe.vs rfl (fun i hi => by have e : i = 0 := (by omega); subst e; rfl), trivial⟩ ⟨trivial, ⟨by decide, rfl⟩, trivial⟩ ?_
        refine mayFrags_spec 0 [⟨1, known⟩] _ _ (by simp) ⟨rfl, trivial, rfl, rfl, _, rfl, rfl, rfl, ?_⟩
        refine SemW.go tyT_ok mixed ?_
        conv => arg 6; whnf
        refine Holds.mk (by simp) ?_
        refine SemW.cond rfl (fun s4 => ?_) (fun s4 => ?_)
        · refine SemW.go tyT_ok mixed ?_
          conv => arg 6; whnf
          refine Holds.mk (by simp) ?_
          refine SemW.call0 rfl rfl func12 rfl rfl ?_
          refine awake_spec _ _ ⟨rfl, rfl, _, rfl, rfl, rfl, ?_⟩
          refine SemW.go tyT_ok mixed ?_
          conv => arg 6; whnf
          refine Holds.mk (by simp) ?_
          refine SemW.ret0 tyT_ok func9 rfl rfl rfl ?_
          exact hQ
        · have hw1 : ¬ w < 1 := by simpa using s3
          have hmay : mayB w [⟨1, bk⟩] = true := by simpa using s2
          have hkn : mayB 0 [⟨1, known⟩] = true := by simpa using s4
          have hbad : bad.length ≤ 60 := longB_false s1 bad (by simp)
          obtain ⟨hwb, hb5, _, _⟩ := mayB_facts hmay
          obtain ⟨_, hk5, _, _⟩ := mayB_facts hkn
          have hfr := renew_fresh (fi := fi) (e := e) (bad := bad) hmay hkn
          have hno : (renewF ⟨fi, bk⟩ w e bad known).2 = false → (renewF ⟨fi, bk⟩ w e bad known).1.books = [] := by
            unfold renewF
            dsimp only
            split
            · intro h; cases h
            · intro _; rfl
          refine SemW.go tyT_ok mixed ?_
          conv => arg 6; whnf
          refine Holds.mk (by simp) ?_
          refine SemW.call0 rfl rfl func28 rfl rfl ?_
          refine renew_spec fi bk w e bad known _ _ (by omega) (by omega) (by omega) ⟨rfl, rfl, _, rfl, rfl, rfl, ?_⟩
          generalize renewF ⟨fi, bk⟩ w e bad known = r at *
          obtain ⟨⟨gf, gb⟩, ok⟩ := r
          dsimp only at *
          refine SemW.go tyT_ok mixed ?_
          conv => arg 6; whnf
          refine Holds.mk (by simp) ?_
          refine SemW.cond rfl (fun s5 => ?_) (fun s5 => ?_)
          · have e0 : ok = false := by simpa using s5
            have e1 := hno e0
            subst e1
            refine SemW.go tyT_ok mixed ?_
            conv => arg 6; whnf
            refine Holds.mk (by simp) ?_
            refine SemW.split (fun s6 => ?_) (fun s6 => ?_)
            · refine SemW.go tyT_ok mixed ?_
              conv => arg 6; whnf
              refine Holds.mk (by simp) ?_
              refine SemW.call0 rfl rfl func12 rfl rfl ?_
              refine awake_spec _ _ ⟨rfl, rfl, _, rfl, rfl, rfl, ?_⟩
              refine SemW.go tyT_ok mixed ?_
              conv => arg 6; whnf
              refine Holds.mk (by simp) ?_
              refine SemW.ret0 tyT_ok func9 rfl rfl rfl ?_
              exact hQ
            · exfalso
              simp at s6
          · have e0 : ok = true := by simpa using s5
            obtain ⟨hgf, hi2, hnb⟩ := hfr e0
            subst hgf
            refine SemW.go tyT_ok mixed ?_
            conv => arg 6; whnf
            refine Holds.mk (by simp) ?_
            refine SemW.call0 rfl rfl func11 rfl rfl ?_
            refine SemC.view [aint w, sF [⟨1, gb⟩]] ⟨AvLe.refl _, AvLe.vs rfl (fun i hi => by have e : i = 0 := (by omega); subst e; rfl), trivial⟩ ⟨trivial, ⟨by decide, rfl⟩, trivial⟩ ?_
            refine mayFrags_spec w [⟨1, gb⟩] _ _ (by simp) ⟨rfl, trivial, rfl, rfl, _, rfl, rfl, rfl, ?_⟩
            have hg5 := hi2.l5
            rw [hi2.v.may hi2.w hi2.l5]
            refine SemW.go tyT_ok mixed ?_
            conv => arg 6; whnf
            refine Holds.mk (by simp) ?_
            refine SemW.split (fun s6 => ?_) (fun s6 => ?_)
            · exfalso
              cases s6
            · refine SemW.go tyT_ok mixed ?_
              conv => arg 6; whnf
              refine Holds.mk (by simp) ?_
              refine SemW.cond rfl (fun s7 => ?_) (fun s7 => ?_)
              · exfalso
                simp at s7
              · refine SemW.go tyT_ok mixed ?_
                conv => arg 6; whnf
                refine Holds.mk (by simp) ?_
                refine SemW.loop (X := {i : Nat // i ≤ known.length}) (fun i => [(1, aint w), (3, sP bad), (4, sP known), (5, .ptr (.l 0) 0), (11, .ptr (.l 5) 0), (13, aint (keptL (known.take i.1) (badB bad)).length), (14, aint 0), (15, aint 0), (16, aint i.1)]) (fun _ => [(5, .obj [.val (.int .u64 gf), sP gb]), (0, .obj [.val (.int .u64 gf), sP bk])]) (fun _ => [1, 2, 3, 4, 6, 7, 8, 9]) (fun i => known.length - i.1) ⟨0, Nat.zero_le _⟩
                  (SemW.cut ⟨rfl, rfl, rfl, rfl, rfl, rfl, rfl, rfl, rfl, trivial⟩ ⟨rfl, rfl, trivial⟩ (by decide) rfl rfl) (fun ⟨i, hi⟩ IH => ?_)
                dsimp only at hi IH ⊢
                refine SemW.go tyT_ok mixed ?_
                conv => arg 6; whnf
                refine Holds.mk (by simp) ?_
                refine SemW.cond rfl (fun c1 => ?_) (fun c1 => ?_)
                · have hil : i < known.length := by simpa using c1
                  have IH' := IH ⟨i + 1, hil⟩ (by show known.length - (i + 1) < known.length - i; omega)
                  dsimp only at IH'
                  rw [keptL_take hil] at IH'
                  have hg : known.getD i ⟨0, 0⟩ = known[i] := by simp [hil]
                  have hle := keptL_le known (badB bad) i
                  refine SemW.go tyT_ok mixed ?_
                  conv => arg 6; whnf
                  refine Holds.mk ((by simp; omega)) ?_
                  refine SemW.call0 rfl rfl func30 rfl rfl ?_
                  refine has_spec bad (known.getD i ⟨0, 0⟩) _ _ (by omega) ⟨rfl, rfl, _, rfl, rfl, rfl, ?_⟩
                  rw [← hg] at IH'
                  have hbb : badB bad (known.getD i ⟨0, 0⟩) = bad.any (· == known.getD i ⟨0, 0⟩) := rfl
                  rw [hbb] at IH'
                  refine SemW.go tyT_ok mixed ?_
                  conv => arg 6; whnf
                  refine Holds.mk (by simp) ?_
                  refine SemW.cond rfl (fun c2 => ?_) (fun c2 => ?_)
                  · rw [if_neg (by rw [Bool.not_eq_true']  at c2; rw [c2]; simp)] at IH'
                    refine SemW.go tyT_ok mixed ?_
                    conv => arg 6; whnf
                    refine Holds.mk (by simp) ?_
                    refine SemW.cut ?_ ?_ (by decide) rfl rfl IH'
                    · exact ⟨rfl, rfl, rfl, rfl, rfl, by rw [List.length_append]; exact incI (by omega), rfl, rfl, incI (by omega), trivial⟩
                    · exact ⟨rfl, rfl, trivial⟩
                  · rw [if_pos (by rw [Bool.not_eq_false'] at c2; exact c2)] at IH'
                    refine SemW.go tyT_ok mixed ?_
                    conv => arg 6; whnf
                    refine Holds.mk (by simp) ?_
                    refine SemW.cut ?_ ?_ (by decide) rfl rfl IH'
                    · exact ⟨rfl, rfl, rfl, rfl, rfl, rfl, rfl, rfl, incI (by omega), trivial⟩
                    · exact ⟨rfl, rfl, trivial⟩
                · obtain rfl : i = known.length := by simp at c1; omega
                  rw [List.take_length] at *
                  clear IH
                  generalize hgood : (keptL known (badB bad)).length = good at *
                  refine SemW.go tyT_ok mixed ?_
                  conv => arg 6; whnf
                  refine Holds.mk (by simp) ?_
                  refine SemW.loop (X := {i : Nat // i ≤ gb.length}) (fun i => [(1, aint w), (3, sP bad), (5, .ptr (.l 0) 0), (11, .ptr (.l 5) 0), (13, aint good), (14, aint ((gb.take i.1).countP (badB bad))), (15, aint 0), (17, aint i.1)]) (fun _ => [(5, .obj [.val (.int .u64 gf), sP gb]), (0, .obj [.val (.int .u64 gf), sP bk])]) (fun _ => [1, 2, 3, 4, 6, 7, 8, 9]) (fun i => gb.length - i.1) ⟨0, Nat.zero_le _⟩
                    (SemW.cut ⟨rfl, rfl, rfl, rfl, rfl, rfl, rfl, rfl, trivial⟩ ⟨rfl, rfl, trivial⟩ (by decide) rfl rfl) (fun ⟨i, hi⟩ IH => ?_)
                  dsimp only at hi IH ⊢
                  refine SemW.go tyT_ok mixed ?_
                  conv => arg 6; whnf
                  refine Holds.mk (by simp) ?_
                  refine SemW.cond rfl (fun c3 => ?_) (fun c3 => ?_)
                  · have hil : i < gb.length := by simpa using c3
                    have IH' := IH ⟨i + 1, hil⟩ (by show gb.length - (i + 1) < gb.length - i; omega)
                    dsimp only at IH'
                    have e : gb.take (i + 1) = gb.take i ++ [gb[i]] := by rw [List.take_add_one, List.getElem?_eq_getElem hil]; rfl
                    rw [e, List.countP_append, List.countP_singleton] at IH'
                    have hg : gb.getD i ⟨0, 0⟩ = gb[i] := by simp [hil]
                    have hle : (gb.take i).countP (badB bad) ≤ i := Nat.le_trans List.countP_le_length (by simp; omega)
                    refine SemW.go tyT_ok mixed ?_
                    conv => arg 6; whnf
                    refine Holds.mk ((by simp; omega)) ?_
                    refine SemW.call0 rfl rfl func30 rfl rfl ?_
                    refine has_spec bad (gb.getD i ⟨0, 0⟩) _ _ (by omega) ⟨rfl, rfl, _, rfl, rfl, rfl, ?_⟩
                    rw [← hg] at IH'
                    have hbb : badB bad (gb.getD i ⟨0, 0⟩) = bad.any (· == gb.getD i ⟨0, 0⟩) := rfl
                    rw [hbb] at IH'
                    refine SemW.go tyT_ok mixed ?_
                    conv => arg 6; whnf
                    refine Holds.mk (by simp) ?_
                    refine SemW.cond rfl (fun c4 => ?_) (fun c4 => ?_)
                    · rw [if_pos c4] at IH'
                      refine SemW.go tyT_ok mixed ?_
                      conv => arg 6; whnf
                      refine Holds.mk (by simp) ?_
                      refine SemW.cut ?_ ?_ (by decide) rfl rfl IH'
                      · exact ⟨rfl, rfl, rfl, rfl, rfl, incI (by omega), rfl, incI (by omega), trivial⟩
                      · exact ⟨rfl, rfl, trivial⟩
                    · rw [if_neg (by rw [c4]; simp), Nat.add_zero] at IH'
                      refine SemW.go tyT_ok mixed ?_
                      conv => arg 6; whnf
                      refine Holds.mk (by simp) ?_
                      refine SemW.cut ?_ ?_ (by decide) rfl rfl IH'
                      · exact ⟨rfl, rfl, rfl, rfl, rfl, rfl, rfl, incI (by omega), trivial⟩
                      · exact ⟨rfl, rfl, trivial⟩
                  · obtain rfl : i = gb.length := by simp at c3; omega
                    rw [List.take_length] at *
                    clear IH
                    have hend : decide ((good : Int) < w) = false → ((gb.countP (badB bad) : Nat) : Int) == 0 := fun hc => by
                      have h0 : gb.countP (badB bad) = 0 := List.countP_eq_zero.2 fun y hy => by
                        rw [hnb (by simpa using hc) y hy]
                        simp
                      rw [h0]
                      rfl
                    generalize gb.countP (badB bad) = lacks at *
                    refine SemW.go tyT_ok mixed ?_
                    conv => arg 6; whnf
                    refine Holds.mk (by simp) ?_
                    refine SemW.loop (X := {x : Nat × Nat // x.1 ≤ bk.length ∧ x.2 ≤ gb.length ∧ (keptL (bk.drop x.1) (badB bad)).Sublist (gb.drop x.2)}) (fun x => [(1, aint w), (3, sP bad), (5, .ptr (.l 0) 0), (11, .ptr (.l 5) 0), (13, aint good), (14, aint lacks), (15, aint x.1.2), (18, aint x.1.1)]) (fun _ => [(5, .obj [.val (.int .u64 gf), sP gb]), (0, .obj [.val (.int .u64 gf), sP bk])]) (fun _ => [1, 2, 3, 4, 6, 7, 8, 9]) (fun x => bk.length - x.1.1) ⟨(0, 0), Nat.zero_le _, Nat.zero_le _, hi2.sub⟩
                      (SemW.cut ⟨rfl, rfl, rfl, rfl, rfl, rfl, rfl, rfl, trivial⟩ ⟨rfl, rfl, trivial⟩ (by decide) rfl rfl) (fun ⟨⟨i, at_⟩, hi, hat, hsub⟩ IH => ?_)
                    dsimp only at hi hat hsub IH ⊢
                    refine SemW.go tyT_ok mixed ?_
                    conv => arg 6; whnf
                    refine Holds.mk (by simp) ?_
                    refine SemW.cond rfl (fun c5 => ?_) (fun c5 => ?_)
                    · have hil : i < bk.length := by simpa using c5
                      have hg : bk.getD i ⟨0, 0⟩ = bk[i] := by simp [hil]
                      have IH' := fun at' h1 h2 => IH ⟨(i + 1, at'), hil, h1, h2⟩ (by show bk.length - (i + 1) < bk.length - i; omega)
                      dsimp only at IH'
                      rw [List.drop_eq_getElem_cons hil] at hsub
                      unfold keptL at hsub
                      rw [List.filter_cons, ← hg] at hsub
                      have hbb : badB bad (bk.getD i ⟨0, 0⟩) = bad.any (· == bk.getD i ⟨0, 0⟩) := rfl
                      rw [hbb] at hsub
                      refine SemW.go tyT_ok mixed ?_
                      conv => arg 6; whnf
                      refine Holds.mk ((by simp; omega)) ?_
                      refine SemW.call0 rfl rfl func30 rfl rfl ?_
                      refine has_spec bad (bk.getD i ⟨0, 0⟩) _ _ (by omega) ⟨rfl, rfl, _, rfl, rfl, rfl, ?_⟩
                      refine SemW.go tyT_ok mixed ?_
                      conv => arg 6; whnf
                      refine Holds.mk (by simp) ?_
                      refine SemW.cond rfl (fun c6 => ?_) (fun c6 => ?_)
                      · rw [c6, if_neg (by simp)] at hsub
                        refine SemW.go tyT_ok mixed ?_
                        conv => arg 6; whnf
                        refine Holds.mk (by simp) ?_
                        refine SemW.cut ?_ ?_ (by decide) rfl rfl (IH' at_ hat hsub)
                        · exact ⟨rfl, rfl, rfl, rfl, rfl, rfl, rfl, incI (by omega), trivial⟩
                        · exact ⟨rfl, rfl, trivial⟩
                      · rw [c6, if_pos (by simp)] at hsub
                        refine SemW.go tyT_ok mixed ?_
                        conv => arg 6; whnf
                        refine Holds.mk (by simp) ?_
                        refine SemW.loop (X := {x : Nat // x ≤ gb.length ∧ (bk.getD i ⟨0, 0⟩ :: (bk.drop (i + 1)).filter fun p => !(badB bad p)).Sublist (gb.drop x)}) (fun x => [(1, aint w), (3, sP bad), (5, .ptr (.l 0) 0), (11, .ptr (.l 5) 0), (13, aint good), (14, aint lacks), (15, aint x.1), (18, aint i)]) (fun _ => [(5, .obj [.val (.int .u64 gf), sP gb]), (0, .obj [.val (.int .u64 gf), sP bk])]) (fun _ => [1, 2, 3, 4, 6, 7, 8, 9]) (fun x => gb.length - x.1) ⟨at_, hat, hsub⟩
                          (SemW.cut ⟨rfl, rfl, rfl, rfl, rfl, rfl, rfl, rfl, trivial⟩ ⟨rfl, rfl, trivial⟩ (by decide) rfl rfl) (fun ⟨x, hx, hxs⟩ IH2 => ?_)
                        dsimp only at hx hxs IH2 ⊢
                        have hxl : x < gb.length := by
                          refine Nat.lt_of_not_le fun hge => ?_
                          rw [List.drop_eq_nil_of_le hge] at hxs
                          cases hxs
                        have hgx : gb.getD x ⟨0, 0⟩ = gb[x] := by simp [hxl]
                        rw [List.drop_eq_getElem_cons hxl, ← hgx] at hxs
                        refine SemW.go tyT_ok mixed ?_
                        conv => arg 6; whnf
                        refine Holds.mk (by simp) ?_
                        refine SemW.draw mixed rfl rfl ?_
                        refine SemDr.go tyT_ok ?_
                        conv => arg 9; whnf
                        refine HoldsD.mk (by simp) ?_
                        refine SemDr.split (fun c7 => ?_) (fun c7 => ?_)
                        · refine SemDr.go tyT_ok ?_
                          conv => arg 9; whnf
                          refine HoldsD.mk ((by simp; omega)) ?_
                          refine SemDr.end rfl ?_
                          refine SemW.go tyT_ok mixed ?_
                          conv => arg 6; whnf
                          refine Holds.mk (by simp) ?_
                          refine SemW.cond rfl (fun c8 => ?_) (fun c8 => ?_)
                          · have hne : bk.getD i ⟨0, 0⟩ ≠ gb.getD x ⟨0, 0⟩ := fun e => by
                              have c8' : (!((((gb.getD x P0).node == (bk.getD i P0).node)) && ((gb.getD x P0).serial == (bk.getD i P0).serial && true))) = true := c8
                              rw [eqP] at c8'
                              have e' : gb.getD x P0 = bk.getD i P0 := e.symm
                              rw [e'] at c8'
                              simp at c8'
                            have hxs' : (bk.getD i ⟨0, 0⟩ :: (bk.drop (i + 1)).filter fun p => !(badB bad p)).Sublist (gb.drop (x + 1)) := by
                              exact sub_ne hne hxs
                            refine SemW.go tyT_ok mixed ?_
                            conv => arg 6; whnf
                            refine Holds.mk (by simp) ?_
                            refine SemW.cut ?_ ?_ (by decide) rfl rfl (IH2 ⟨x + 1, hxl, hxs'⟩ (by show gb.length - (x + 1) < gb.length - x; omega))
                            · exact ⟨rfl, rfl, rfl, rfl, rfl, rfl, incI (by omega), rfl, trivial⟩
                            · exact ⟨rfl, rfl, trivial⟩
                          · refine SemW.go tyT_ok mixed ?_
                            conv => arg 6; whnf
                            refine Holds.mk (by simp) ?_
                            refine SemW.cond rfl (fun c9 => ?_) (fun c9 => ?_)
                            · exfalso
                              simp at c9
                              omega
                            · refine SemW.go tyT_ok mixed ?_
                              conv => arg 6; whnf
                              refine Holds.mk (by simp) ?_
                              refine SemW.cut ?_ ?_ (by decide) rfl rfl (IH' x hx ?_)
                              · exact ⟨rfl, rfl, rfl, rfl, rfl, rfl, rfl, incI (by omega), trivial⟩
                              · exact ⟨rfl, rfl, trivial⟩
                              · rw [List.drop_eq_getElem_cons hxl, ← hgx]
                                exact (List.sublist_cons_self _ _).trans hxs
                        · exfalso
                          simp at c7
                          omega
                    · obtain rfl : i = bk.length := by simp at c5; omega
                      refine SemW.go tyT_ok mixed ?_
                      conv => arg 6; whnf
                      refine Holds.mk (by simp) ?_
                      refine SemW.split (fun c8 => ?_) (fun c8 => ?_)
                      · refine SemW.go tyT_ok mixed ?_
                        conv => arg 6; whnf
                        refine Holds.mk (by simp) ?_
                        refine SemW.split (fun c9 => ?_) (fun c9 => ?_)
                        · refine SemW.go tyT_ok mixed ?_
                          conv => arg 6; whnf
                          refine Holds.mk (by simp) ?_
                          refine SemW.call0 rfl rfl func12 rfl rfl ?_
                          refine awake_spec _ _ ⟨rfl, rfl, _, rfl, rfl, rfl, ?_⟩
                          refine SemW.go tyT_ok mixed ?_
                          conv => arg 6; whnf
                          refine Holds.mk (by simp) ?_
                          refine SemW.ret0 tyT_ok func9 rfl rfl rfl ?_
                          exact hQ
                        · exact absurd c9 (by simp)
                      · refine SemW.go tyT_ok mixed ?_
                        conv => arg 6; whnf
                        refine Holds.mk (by simp) ?_
                        refine SemW.split (fun c9 => ?_) (fun c9 => ?_)
                        · refine SemW.go tyT_ok mixed ?_
                          conv => arg 6; whnf
                          refine Holds.mk (by simp) ?_
                          refine SemW.call0 rfl rfl func12 rfl rfl ?_
                          refine awake_spec _ _ ⟨rfl, rfl, _, rfl, rfl, rfl, ?_⟩
                          refine SemW.go tyT_ok mixed ?_
                          conv => arg 6; whnf
                          refine Holds.mk (by simp) ?_
                          refine SemW.ret0 tyT_ok func9 rfl rfl rfl ?_
                          exact hQ
                        · exfalso
                          have h1 : ((lacks : Int) == 0) = false := c9
                          rw [hend c8] at h1
                          cases h1
end Go.Proofs.Try
