/- Part 9 of the proof of the row StripeRound: written for this claim by the session and by a program of its own. -/
import Derived.Test.YtipjnfljkknmgaaCStripeRoundp8
import Derived.Test.YtipjnfljkknmgaaCStripeRoundp2
set_option linter.unusedVariables false
set_option linter.unusedSimpArgs false
open Go Go.AM
namespace Go.Proofs.Try
theorem mayB_facts {w : Int} {b : List Pl} {x : Int} (h : mayB w [⟨x, b⟩] = true) : w ≤ b.length ∧ b.length ≤ 5 ∧ (∀ q, q < b.length → placeB (b.getD q P0) = true) ∧ ∀ q, q < b.length → ∀ j, j < q → (b.getD j P0).node ≠ (b.getD q P0).node := by
  unfold mayB at h
  simp only [Bool.and_eq_true, List.all_eq_true] at h
  have h1 := h.2.2.2 0 (by simp)
  unfold fragB at h1
  simp only [Bool.and_eq_true] at h1
  obtain ⟨_, _, h2, h3, h4⟩ := h1
  simp only [List.getD_cons_zero] at h2 h3 h4
  unfold booksB at h4
  simp only [List.all_eq_true, List.mem_range, Bool.and_eq_true] at h4
  refine ⟨by simp at h2; omega, by simp at h3; omega, fun q hq => (h4 q hq).1, fun q hq j hj => ?_⟩
  have := (h4 q hq).2
  unfold unlikeB at this
  simp only [List.all_eq_true, List.mem_range] at this
  have := this j hj
  simpa using this
theorem placeB_node {p : Pl} (h : placeB p = true) : 1 ≤ p.node ∧ p.node ≤ 15 := by
  unfold placeB at h
  simp only [Bool.and_eq_true, decide_eq_true_eq] at h
  omega
theorem mod_ne {a i j e : Nat} (hij : j < i) (hie : i < e) : (a + j) % e ≠ (a + i) % e := by
  intro h
  have := Nat.sub_mod_eq_zero_of_mod_eq h.symm
  rw [show a + i - (a + j) = i - j by omega, Nat.mod_eq_of_lt (by omega)] at this
  omega
theorem unlike_ne {b : List Pl} (hd : ∀ q, q < b.length → ∀ j, j < q → (b.getD j P0).node ≠ (b.getD q P0).node) {i j : Nat} (hi : i < b.length) (hj : j < b.length) (hij : i ≠ j) : (b.getD i P0).node ≠ (b.getD j P0).node := by
  rcases Nat.lt_or_gt_of_ne hij with h | h
  · exact hd j hj i h
  · exact (hd i hi j h).symm
theorem among_full (b : List Pl) (hd : ∀ q, q < b.length → ∀ j, j < q → (b.getD j P0).node ≠ (b.getD q P0).node) (a w : Nat) (hw : w ≤ b.length) : amongL (fromL b a w) b = w := by
  have key : ∀ i, i ≤ w → amongT (fromL b a w) b i = i := by
    intro i
    induction i with
    | zero => intro _; rfl
    | succ i ih =>
      intro hi
      have he : 0 < b.length := by omega
      have g : ∀ j, j < w → (fromL b a w).getD j P0 = b.getD ((a + j) % b.length) P0 := fun j hj => fromL_getD b a w j hj
      rw [amongT_succ, ih (by omega)]
      have h1 : firstB (fromL b a w) i i = true := by
        unfold firstB
        rw [List.all_eq_true]
        intro j hj
        have hj := List.mem_range.1 hj
        rw [g j (by omega), g i (by omega)]
        have := unlike_ne hd (Nat.mod_lt _ he) (Nat.mod_lt _ he) (mod_ne (a := a) hj (show i < b.length by omega))
        simp only [Bool.not_eq_true', beq_eq_false_iff_ne, ne_eq]
        intro e
        exact this (by rw [e])
      have h2 : inB (fromL b a w) b i b.length = true := by
        unfold inB
        rw [List.any_eq_true]
        exact ⟨(a + i) % b.length, List.mem_range.2 (Nat.mod_lt _ he), by rw [g i (by omega)]; simp⟩
      rw [h1, h2]
      simp
  unfold amongL
  rw [fromL_length]
  exact key w (Nat.le_refl _)
def sumN (f : Nat → Nat) : Nat → Nat
  | 0 => 0
  | n + 1 => sumN f n + f n
theorem sumN_congr {f g : Nat → Nat} {n : Nat} (h : ∀ i, i < n → f i = g i) : sumN f n = sumN g n := by
  induction n with
  | zero => rfl
  | succ n ih => simp only [sumN]; rw [ih (fun i hi => h i (by omega)), h n (by omega)]
theorem sumN_add (f g : Nat → Nat) (n : Nat) : sumN (fun i => f i + g i) n = sumN f n + sumN g n := by
  induction n with
  | zero => rfl
  | succ n ih => simp only [sumN]; rw [ih]; omega
theorem sumN_one (n : Nat) : sumN (fun _ => 1) n = n := by
  induction n with
  | zero => rfl
  | succ n ih => simp only [sumN]; rw [ih]
theorem sumN_zero (n : Nat) : sumN (fun _ => 0) n = 0 := by
  induction n with
  | zero => rfl
  | succ n ih => simp only [sumN]; rw [ih]
theorem sumN_swap (f : Nat → Nat → Nat) (n m : Nat) : sumN (fun i => sumN (fun k => f i k) m) n = sumN (fun k => sumN (fun i => f i k) n) m := by
  induction m with
  | zero => simp only [sumN]; exact sumN_zero n
  | succ m ih => simp only [sumN]; rw [sumN_add, ih]
theorem sumN_le {f : Nat → Nat} {c : Nat} (h : ∀ i, f i ≤ c) (n : Nat) : sumN f n ≤ n * c := by
  induction n with
  | zero => simp [sumN]
  | succ n ih => simp only [sumN]; have := h n; rw [Nat.add_mul]; omega
theorem sumN_head (f : Nat → Nat) (n : Nat) : sumN f (n + 1) = f 0 + sumN (fun i => f (i + 1)) n := by
  induction n with
  | zero => simp [sumN]
  | succ n ih => rw [sumN, ih]; simp only [sumN]; omega
theorem sumN_rot (f : Nat → Nat) (e t : Nat) (he : 0 < e) : sumN (fun i => f ((t + i) % e)) e = sumN f e := by
  induction t with
  | zero => exact sumN_congr fun i hi => by rw [Nat.zero_add, Nat.mod_eq_of_lt hi]
  | succ t ih =>
    obtain ⟨m, rfl⟩ : ∃ m, e = m + 1 := ⟨e - 1, by omega⟩
    rw [← ih, sumN_head (fun i => f ((t + i) % (m + 1))), sumN]
    have e1 : sumN (fun i => f ((t + 1 + i) % (m + 1))) m = sumN (fun i => f ((t + (i + 1)) % (m + 1))) m := sumN_congr fun i _ => by rw [show t + 1 + i = t + (i + 1) by omega]
    rw [e1, show t + 1 + m = t + 0 + (m + 1) by omega, Nat.add_mod_right]
    omega
def ind (b : List Pl) (a i k j : Nat) : Nat := if (b.getD ((a + i + k) % b.length) P0).node = (j : Int) then 1 else 0
def cnt (b : List Pl) (a w i k j : Nat) : Nat := sumN (fun i' => sumN (fun k' => ind b a i' k' j) w) i + sumN (fun k' => ind b a i k' j) k
theorem cnt_k (b : List Pl) (a w i k j : Nat) : cnt b a w i (k + 1) j = cnt b a w i k j + ind b a i k j := by simp only [cnt, sumN]; omega
theorem cnt_i (b : List Pl) (a w i j : Nat) : cnt b a w (i + 1) 0 j = cnt b a w i w j := by simp only [cnt, sumN]; omega
theorem cnt_le (b : List Pl) (a w i k j : Nat) : cnt b a w i k j ≤ i * w + k := by
  have h1 : ∀ i k, ind b a i k j ≤ 1 := fun i k => by unfold ind; split <;> omega
  have h2 : ∀ i m, sumN (fun k' => ind b a i k' j) m ≤ m := fun i m => by have := sumN_le (h1 i) m; omega
  have h3 := sumN_le (f := fun i' => sumN (fun k' => ind b a i' k' j) w) (c := w) (fun i => h2 i w) i
  have h4 := h2 i k
  unfold cnt
  omega
theorem cnt_total (b : List Pl) (hd : ∀ q, q < b.length → ∀ j, j < q → (b.getD j P0).node ≠ (b.getD q P0).node) (a w q j : Nat) (hq : q < b.length) (hj : (b.getD q P0).node = (j : Int)) : cnt b a w b.length 0 j = w := by
  have he : 0 < b.length := by omega
  have h1 : sumN (fun i => if (b.getD i P0).node = (j : Int) then 1 else 0) b.length = 1 := by
    have key : ∀ n, n ≤ b.length → sumN (fun i => if (b.getD i P0).node = (j : Int) then 1 else 0) n = if q < n then 1 else 0 := by
      intro n
      induction n with
      | zero => intro _; rfl
      | succ n ih =>
        intro hn
        simp only [sumN]
        rw [ih (by omega)]
        by_cases e : n = q
        · subst e
          rw [if_neg (by omega), if_pos hj, if_pos (by omega)]
        · have : (b.getD n P0).node ≠ (j : Int) := by rw [← hj]; exact unlike_ne hd (by omega) hq e
          rw [if_neg this]
          by_cases hlt : q < n
          · rw [if_pos hlt, if_pos (by omega)]
          · rw [if_neg hlt, if_neg (by omega)]
    rw [key _ (Nat.le_refl _), if_pos hq]
  unfold cnt
  rw [sumN_swap]
  have h2 : sumN (fun k => sumN (fun i => ind b a i k j) b.length) w = sumN (fun _ => 1) w := by
    refine sumN_congr fun k _ => ?_
    rw [← h1, ← sumN_rot (fun i => if (b.getD i P0).node = (j : Int) then 1 else 0) b.length (a + k) he]
    refine sumN_congr fun i _ => ?_
    unfold ind
    rw [show a + i + k = a + k + i by omega]
  rw [h2, sumN_one]
  simp [sumN]
theorem setL_one (x w n : Int) (b : List Pl) (h1 : x ≤ n) (h2 : 1 ≤ w) (h3 : w ≤ b.length) : setL [⟨x, b⟩] w n = fromL b ((n - x).toNat % b.length) w.toNat := by
  have e : lastF [⟨x, b⟩] (fun f => decide (f.first ≤ n)) = ⟨x, b⟩ := by simp [lastF, h1]
  unfold setL
  rw [e, if_pos]
  simp [h1]
  omega
theorem fromL_mod (b : List Pl) (a w : Nat) : fromL b (a % b.length) w = fromL b a w := by
  unfold fromL
  refine List.map_congr_left fun i _ => ?_
  rw [Nat.mod_add_mod]
theorem and15 {x : Int} (h1 : 1 ≤ x) (h2 : x ≤ 15) : bitsOp .and .i64 x 15 = some x := by
  have : x = 1 ∨ x = 2 ∨ x = 3 ∨ x = 4 ∨ x = 5 ∨ x = 6 ∨ x = 7 ∨ x = 8 ∨ x = 9 ∨ x = 10 ∨ x = 11 ∨ x = 12 ∨ x = 13 ∨ x = 14 ∨ x = 15 := by omega
  rcases this with rfl | rfl | rfl | rfl | rfl | rfl | rfl | rfl | rfl | rfl | rfl | rfl | rfl | rfl | rfl <;> decide
theorem and15' {x : Int} (h1 : 1 ≤ x) (h2 : x ≤ 15) : IntKind.i64.wrap (((BitVec.ofInt IntKind.i64.bits x &&& BitVec.ofInt IntKind.i64.bits 15).toNat : Nat) : Int) = x := by
  have := and15 h1 h2
  simpa [bitsOp] using this
end Go.Proofs.Try
set_option linter.unusedVariables false
set_option linter.unusedSimpArgs false
open Go Go.AM
namespace Go.Proofs.Try
set_option maxRecDepth 100000
set_option maxHeartbeats 8000000
theorem round_spec (fi : Int) (bk : List Pl) (w n : Int) (h : Hp) (Q : AV → Hp → List Blk → Prop) (hf0 : 0 ≤ fi) (hn0 : 0 ≤ n) (hn1 : n ≤ 18446744073709551615) (hQ : Q (abool true) h []) : SemC Try.prog 4 [encF ⟨fi, bk⟩, aint w, .val (.int .u64 n)] h Q := by
  refine SemC.enter func4 rfl (Nat.le_of_ble_eq_true rfl) fresh fresh_nodup ?_
  refine SemW.go tyT_ok mixed ?_
  conv => arg 6; whnf
  refine Holds.mk (by simp) ?_
  refine SemW.call0 rfl rfl func10 rfl rfl ?_
  refine SemC.view [sF [⟨fi, bk⟩], aint w, sR []] ⟨AvLe.vs rfl (fun i hi => by have e : i = 0 := (by omega); subst e; rfl), AvLe.refl _, AvLe.nil _ _ _ _, trivial⟩ ⟨⟨by decide, rfl⟩, trivial, trivial, trivial⟩ ?_
  refine long_spec [⟨fi, bk⟩] w [] _ _ (by simp) (by simp) ⟨rfl, trivial, rfl, rfl, _, rfl, rfl, rfl, ?_⟩
  refine SemW.go tyT_ok mixed ?_
  conv => arg 6; whnf
  refine Holds.mk (by simp) ?_
  refine SemW.split (fun s1 => ?_) (fun s1 => ?_)
  · refine SemW.go tyT_ok mixed ?_
    conv => arg 6; whnf
    refine Holds.mk (by simp) ?_
    refine SemW.go tyT_ok mixed ?_
    conv => arg 6; whnf
    refine Holds.mk (by simp) ?_
    refine SemW.go tyT_ok mixed ?_
    conv => arg 6; whnf
    refine Holds.mk (by simp) ?_
    refine SemW.go tyT_ok mixed ?_
    conv => arg 6; whnf
    refine Holds.mk (by simp) ?_
    refine SemW.condT rfl ?_
    refine SemW.go tyT_ok mixed ?_
    conv => arg 6; whnf
    refine Holds.mk (by simp) ?_
    refine SemW.call0 rfl rfl func12 rfl rfl ?_
    refine awake_spec _ _ ⟨rfl, rfl, _, rfl, rfl, rfl, ?_⟩
    refine SemW.go tyT_ok mixed ?_
    conv => arg 6; whnf
    refine Holds.mk (by simp) ?_
    refine SemW.ret0 tyT_ok func4 rfl rfl rfl ?_
    exact hQ
  · refine SemW.go tyT_ok mixed ?_
    conv => arg 6; whnf
    refine Holds.mk (by simp) ?_
    refine SemW.split (fun s2 => ?_) (fun s2 => ?_)
    · refine SemW.go tyT_ok mixed ?_
      conv => arg 6; whnf
      refine Holds.mk (by simp) ?_
      refine SemW.go tyT_ok mixed ?_
      conv => arg 6; whnf
      refine Holds.mk (by simp) ?_
      refine SemW.go tyT_ok mixed ?_
      conv => arg 6; whnf
      refine Holds.mk (by simp) ?_
      refine SemW.condT rfl ?_
      refine SemW.go tyT_ok mixed ?_
      conv => arg 6; whnf
      refine Holds.mk (by simp) ?_
      refine SemW.call0 rfl rfl func12 rfl rfl ?_
      refine awake_spec _ _ ⟨rfl, rfl, _, rfl, rfl, rfl, ?_⟩
      refine SemW.go tyT_ok mixed ?_
      conv => arg 6; whnf
      refine Holds.mk (by simp) ?_
      refine SemW.ret0 tyT_ok func4 rfl rfl rfl ?_
      exact hQ
    · refine SemW.go tyT_ok mixed ?_
      conv => arg 6; whnf
      refine Holds.mk (by simp) ?_
      refine SemW.call0 rfl rfl func11 rfl rfl ?_
      refine SemC.view [aint w, sF [⟨1, bk⟩]] ⟨AvLe.refl _, AvLe.vs rfl (fun i hi => by have e : i = 0 := (by omega); subst e; rfl), trivial⟩ ⟨trivial, ⟨by decide, rfl⟩, trivial⟩ ?_
      refine mayFrags_spec w [⟨1, bk⟩] _ _ (by simp) ⟨rfl, trivial, rfl, rfl, _, rfl, rfl, rfl, ?_⟩
      refine SemW.go tyT_ok mixed ?_
      conv => arg 6; whnf
      refine Holds.mk (by simp) ?_
      refine SemW.split (fun s3 => ?_) (fun s3 => ?_)
      · refine SemW.go tyT_ok mixed ?_
        conv => arg 6; whnf
        refine Holds.mk (by simp) ?_
        refine SemW.go tyT_ok mixed ?_
        conv => arg 6; whnf
        refine Holds.mk (by simp) ?_
        refine SemW.condT rfl ?_
        refine SemW.go tyT_ok mixed ?_
        conv => arg 6; whnf
        refine Holds.mk (by simp) ?_
        refine SemW.call0 rfl rfl func12 rfl rfl ?_
        refine awake_spec _ _ ⟨rfl, rfl, _, rfl, rfl, rfl, ?_⟩
        refine SemW.go tyT_ok mixed ?_
        conv => arg 6; whnf
        refine Holds.mk (by simp) ?_
        refine SemW.ret0 tyT_ok func4 rfl rfl rfl ?_
        exact hQ
      · refine SemW.go tyT_ok mixed ?_
        conv => arg 6; whnf
        refine Holds.mk (by simp) ?_
        refine SemW.split (fun s4 => ?_) (fun s4 => ?_)
        · refine SemW.go tyT_ok mixed ?_
          conv => arg 6; whnf
          refine Holds.mk (by simp) ?_
          refine SemW.condT rfl ?_
          refine SemW.go tyT_ok mixed ?_
          conv => arg 6; whnf
          refine Holds.mk (by simp) ?_
          refine SemW.call0 rfl rfl func12 rfl rfl ?_
          refine awake_spec _ _ ⟨rfl, rfl, _, rfl, rfl, rfl, ?_⟩
          refine SemW.go tyT_ok mixed ?_
          conv => arg 6; whnf
          refine Holds.mk (by simp) ?_
          refine SemW.ret0 tyT_ok func4 rfl rfl rfl ?_
          exact hQ
        · refine SemW.go tyT_ok mixed ?_
          conv => arg 6; whnf
          refine Holds.mk (by simp) ?_
          refine SemW.cond rfl (fun s5 => ?_) (fun s5 => ?_)
          · refine SemW.go tyT_ok mixed ?_
            conv => arg 6; whnf
            refine Holds.mk (by simp) ?_
            refine SemW.call0 rfl rfl func12 rfl rfl ?_
            refine awake_spec _ _ ⟨rfl, rfl, _, rfl, rfl, rfl, ?_⟩
            refine SemW.go tyT_ok mixed ?_
            conv => arg 6; whnf
            refine Holds.mk (by simp) ?_
            refine SemW.ret0 tyT_ok func4 rfl rfl rfl ?_
            exact hQ
          · have hw1 : ¬ w < 1 := by simpa using s2
            have hmay : mayB w [⟨1, bk⟩] = true := by simpa using s3
            have hfn : ¬ n < fi := by simpa using s4
            have hn60 : ¬ n > 1152921504606846976 := by simpa using s5
            refine SemW.go tyT_ok mixed ?_
            conv => arg 6; whnf
            refine Holds.mk (by simp) ?_
            obtain ⟨hwb, hb5, hpl, hd⟩ := mayB_facts hmay
            obtain ⟨wn, rfl⟩ : ∃ m : Nat, w = m := ⟨w.toNat, by omega⟩
            obtain ⟨a, ha⟩ : ∃ m : Nat, n - fi = m := ⟨(n - fi).toNat, by omega⟩
            have hwe : wn ≤ bk.length := by omega
            have he : 0 < bk.length := by omega
            have ewrap : IntKind.u64.wrap (bk.length : Int) = bk.length := wrap_u64 (by omega) (by omega)
            have hset : ∀ i : Nat, i ≤ bk.length → setL [⟨fi, bk⟩] wn (n + i) = fromL bk (a + i) wn := fun i hi => by
              rw [setL_one fi wn (n + i) bk (by omega) (by omega) (by omega), show n + (i : Int) - fi = ((a + i : Nat) : Int) by omega, Int.toNat_natCast, Int.toNat_natCast, fromL_mod]
            have hnw : ∀ i : Nat, i ≤ bk.length → IntKind.u64.wrap (n + i) = n + i := fun i hi => wrap_u64 (by omega) (by omega)
            refine SemW.frzW (T' := [(1, aint wn), (2, .val (.int .u64 n)), (3, .ptr (.l 0) 0), (7, sF [⟨fi, bk⟩]), (8, .val (.int .u64 bk.length)), (9, .eptr (.l 4) 0 1 0 0), (10, .val (.int .u64 0))]) (L' := [(4, .arr false 0 1 16 (fun i => (aggsV (tyT 36).zero).getD i .bot)), (0, .obj [.val (.int .u64 fi), sP bk])]) 3 rfl rfl
              ⟨AvLe.refl _, trivial, AvLe.refl _, trivial, AvLe.refl _, trivial, AvLe.vs rfl (fun i hi => by have e : i = 0 := (by omega); subst e; rfl), ⟨Nat.le_refl 1, rfl⟩, AvLe.of (by show AV.val (.int .u64 (IntKind.u64.wrap (bk.length : Int))) = _; rw [ewrap]), trivial, AvLe.refl _, trivial, AvLe.refl _, trivial, trivial⟩ ⟨rfl, rfl, rfl, ⟨rfl, trivial, trivial, trivial⟩, trivial⟩ ?_
            have zero36 : ∀ i, i < 16 → (aggsV (tyT 36).zero).getD i .bot = aint ((cnt bk a wn 0 0 i : Nat) : Int) := fun i hi => by
              have e0 : cnt bk a wn 0 0 i = 0 := rfl
              rw [e0]
              rcases i with _ | _ | _ | _ | _ | _ | _ | _ | _ | _ | _ | _ | _ | _ | _ | _ | i <;> first | rfl | omega
            refine SemW.loop (X := {i : Nat // i ≤ bk.length}) (fun i => [(1, aint wn), (2, .val (.int .u64 n)), (3, .ptr (.l 0) 0), (7, sF [⟨fi, bk⟩]), (8, .val (.int .u64 bk.length)), (9, .eptr (.l 4) 0 1 0 0), (10, .val (.int .u64 i.1))]) (fun i => [(4, .arr false 0 1 16 (fun j => aint ((cnt bk a wn i.1 0 j : Nat) : Int))), (0, .obj [.val (.int .u64 fi), sP bk])]) (fun _ => [1, 2, 3, 5, 6, 7, 8, 9]) (fun i => bk.length - i.1) ⟨0, Nat.zero_le _⟩
              (SemW.cutW ⟨AvLe.refl _, AvLe.refl _, AvLe.refl _, AvLe.refl _, AvLe.refl _, AvLe.refl _, AvLe.refl _, trivial⟩ ⟨⟨_, rfl, BlkLe.arr (Nat.le_refl _) zero36⟩, ⟨_, rfl, BlkLe.refl _⟩, trivial⟩ (by decide) rfl rfl) (fun ⟨i, hi⟩ IH => ?_)
            dsimp only at hi IH ⊢
            refine SemW.go tyT_ok mixed ?_
            conv => arg 6; whnf
            refine Holds.mk (by simp) ?_
            refine SemW.cond rfl (fun c1 => ?_) (fun c1 => ?_)
            · have hil : i < bk.length := by simpa using c1
              refine SemW.go tyT_ok mixed ?_
              conv => arg 6; whnf
              refine Holds.mk (by simp) ?_
              refine SemW.call0 rfl rfl func13 rfl rfl ?_
              refine SemC.weakArgs (args' := [sF [⟨fi, bk⟩], aint wn, .val (.int .u64 (n + i))]) ⟨AvLe.refl _, AvLe.refl _, AvLe.of (by show AV.val (.int .u64 (IntKind.u64.wrap (n + (i : Int)))) = _; rw [hnw i hi]), trivial⟩ ?_
              refine set_spec [⟨fi, bk⟩] wn (n + i) _ _ (by simp) (by simp; exact ⟨by omega, hf0⟩) (by omega) ⟨rfl, rfl, _, rfl, rfl, rfl, ?_⟩
              rw [hset i hi]
              refine SemW.go tyT_ok mixed ?_
              conv => arg 6; whnf
              refine Holds.mk (by simp) ?_
              refine SemW.split (fun c2 => ?_) (fun c2 => ?_)
              · exfalso
                have hlen : (fromL bk (a + i) wn).length = wn := fromL_length _ _ _
                simp [hlen] at c2
              · refine SemW.go tyT_ok mixed ?_
                conv => arg 6; whnf
                refine Holds.mk (by simp) ?_
                refine SemW.call0 rfl rfl func14 rfl rfl ?_
                refine among_spec (fromL bk (a + i) wn) bk _ _ (by rw [fromL_length]; omega) (by omega) ⟨rfl, rfl, _, rfl, rfl, rfl, ?_⟩
                rw [among_full bk hd (a + i) wn hwe]
                refine SemW.go tyT_ok mixed ?_
                conv => arg 6; whnf
                refine Holds.mk (by simp) ?_
                refine SemW.cond rfl (fun c3 => ?_) (fun c3 => ?_)
                · exfalso
                  simp at c3
                · refine SemW.go tyT_ok mixed ?_
                  conv => arg 6; whnf
                  refine Holds.mk (by simp) ?_
                  refine SemW.loop (X := {k : Nat // k ≤ wn}) (fun k => [(1, aint wn), (2, .val (.int .u64 n)), (3, .ptr (.l 0) 0), (7, sF [⟨fi, bk⟩]), (8, .val (.int .u64 bk.length)), (9, .eptr (.l 4) 0 1 0 0), (10, .val (.int .u64 i)), (11, sP (fromL bk (a + i) wn)), (12, aint k.1)]) (fun k => [(4, .arr false 0 1 16 (fun j => aint ((cnt bk a wn i k.1 j : Nat) : Int))), (0, .obj [.val (.int .u64 fi), sP bk])]) (fun _ => [1, 2, 3, 5, 6, 7, 8, 9]) (fun k => wn - k.1) ⟨0, Nat.zero_le _⟩
                    (SemW.cut ⟨rfl, rfl, rfl, rfl, rfl, rfl, rfl, rfl, rfl, trivial⟩ ⟨rfl, rfl, trivial⟩ (by decide) rfl rfl) (fun ⟨k, hk⟩ IH2 => ?_)
                  dsimp only at hk IH2 ⊢
                  refine SemW.go tyT_ok mixed ?_
                  conv => arg 6; whnf
                  refine Holds.mk (by simp) ?_
                  refine SemW.cond rfl (fun c4 => ?_) (fun c4 => ?_)
                  · have hkw : k < wn := by
                      have hlen : (fromL bk (a + i) wn).length = wn := fromL_length _ _ _
                      simp [hlen] at c4
                      exact c4
                    have hp : (fromL bk (a + i) wn).getD k P0 = bk.getD ((a + i + k) % bk.length) P0 := fromL_getD _ _ _ _ hkw
                    have hmod : (a + i + k) % bk.length < bk.length := Nat.mod_lt _ he
                    have hnode := placeB_node (hpl _ hmod)
                    rw [← hp] at hnode
                    obtain ⟨nd, hnd⟩ : ∃ m : Nat, ((fromL bk (a + i) wn).getD k P0).node = m := ⟨((fromL bk (a + i) wn).getD k P0).node.toNat, by omega⟩
                    have hbits : IntKind.i64.wrap (((BitVec.ofInt IntKind.i64.bits ((fromL bk (a + i) wn).getD ((k : Int)).toNat ⟨0, 0⟩).node &&& BitVec.ofInt IntKind.i64.bits 15).toNat : Nat) : Int) = nd := by
                      rw [Int.toNat_natCast]
                      rw [← hnd]
                      exact and15' hnode.1 hnode.2
                    have hle := cnt_le bk a wn i k nd
                    have hprod : i * wn ≤ 5 * 5 := Nat.mul_le_mul (by omega) (by omega)
                    refine SemW.go tyT_ok mixed ?_
                    conv => arg 6; whnf
                    refine Holds.mk ?_ ?_
                    · simp only [hbits]
                      have hlen : (fromL bk (a + i) wn).length = wn := fromL_length _ _ _
                      simp [hlen]
                      omega
                    · refine SemW.cutW ?_ ?_ (by decide) rfl rfl (IH2 ⟨k + 1, hkw⟩ (by show wn - (k + 1) < wn - k; omega))
                      · exact ⟨AvLe.refl _, AvLe.refl _, AvLe.refl _, AvLe.refl _, AvLe.refl _, AvLe.refl _, AvLe.refl _, AvLe.refl _, AvLe.of (incI (by omega)), trivial⟩
                      · refine ⟨⟨_, rfl, BlkLe.arr (Nat.le_refl _) fun j hj => ?_⟩, ⟨_, rfl, BlkLe.refl _⟩, trivial⟩
                        simp only [hbits]
                        have hind : ind bk a i k j = if nd = j then 1 else 0 := by
                          unfold ind
                          rw [← hp, hnd]
                          by_cases e : nd = j
                          · rw [if_pos e, if_pos (by omega)]
                          · rw [if_neg e, if_neg (by omega)]
                        rw [cnt_k, hind]
                        rw [show 0 + (nd : Int).toNat = nd by omega]
                        cases hb : Nat.beq j nd with
                        | true =>
                          have e := Nat.eq_of_beq_eq_true hb
                          subst e
                          rw [if_pos rfl]
                          exact incI (by omega)
                        | false =>
                          have e : nd ≠ j := fun e => by subst e; simp at hb
                          rw [if_neg e]
                          rfl
                  · have hkw : k = wn := by
                      have hlen : (fromL bk (a + i) wn).length = wn := fromL_length _ _ _
                      simp [hlen] at c4
                      omega
                    subst hkw
                    refine SemW.go tyT_ok mixed ?_
                    conv => arg 6; whnf
                    refine Holds.mk (by simp) ?_
                    refine SemW.cutW ?_ ?_ (by decide) rfl rfl (IH ⟨i + 1, hil⟩ (by show bk.length - (i + 1) < bk.length - i; omega))
                    · exact ⟨AvLe.refl _, AvLe.refl _, AvLe.refl _, AvLe.refl _, AvLe.refl _, AvLe.refl _, AvLe.of (incU (by omega)), trivial⟩
                    · refine ⟨⟨_, rfl, BlkLe.arr (Nat.le_refl _) fun j hj => ?_⟩, ⟨_, rfl, BlkLe.refl _⟩, trivial⟩
                      rw [cnt_i]
            · obtain rfl : i = bk.length := by simp at c1; omega
              refine SemW.go tyT_ok mixed ?_
              conv => arg 6; whnf
              refine Holds.mk (by simp) ?_
              refine SemW.loop (X := {q : Nat // q ≤ bk.length}) (fun q => [(1, aint wn), (2, .val (.int .u64 n)), (3, .ptr (.l 0) 0), (7, sF [⟨fi, bk⟩]), (8, .val (.int .u64 bk.length)), (9, .eptr (.l 4) 0 1 0 0), (13, aint q.1)]) (fun q => [(4, .arr false 0 1 16 (fun j => aint ((cnt bk a wn bk.length 0 j : Nat) : Int))), (0, .obj [.val (.int .u64 fi), sP bk])]) (fun _ => [1, 2, 3, 5, 6, 7, 8, 9]) (fun q => bk.length - q.1) ⟨0, Nat.zero_le _⟩
                (SemW.cut ⟨rfl, rfl, rfl, rfl, rfl, rfl, rfl, trivial⟩ ⟨rfl, rfl, trivial⟩ (by decide) rfl rfl) (fun ⟨q, hq⟩ IH3 => ?_)
              dsimp only at hq IH3 ⊢
              refine SemW.go tyT_ok mixed ?_
              conv => arg 6; whnf
              refine Holds.mk (by simp) ?_
              refine SemW.cond rfl (fun c5 => ?_) (fun c5 => ?_)
              · have hql : q < bk.length := by simpa using c5
                have hnode := placeB_node (hpl q hql)
                obtain ⟨nd, hnd⟩ : ∃ m : Nat, (bk.getD q P0).node = m := ⟨(bk.getD q P0).node.toNat, by omega⟩
                have hbits : IntKind.i64.wrap (((BitVec.ofInt IntKind.i64.bits (bk.getD ((q : Int)).toNat ⟨0, 0⟩).node &&& BitVec.ofInt IntKind.i64.bits 15).toNat : Nat) : Int) = nd := by
                  rw [Int.toNat_natCast]
                  rw [← hnd]
                  exact and15' hnode.1 hnode.2
                have htot := cnt_total bk hd a wn q nd hql hnd
                refine SemW.go tyT_ok mixed ?_
                conv => arg 6; whnf
                refine Holds.mk ?_ ?_
                · simp only [hbits]
                  simp
                  omega
                · refine SemW.cond rfl (fun c6 => ?_) (fun c6 => ?_)
                  · exfalso
                    simp only [hbits] at c6
                    rw [show 0 + (nd : Int).toNat = nd by omega, htot] at c6
                    simp at c6
                  · refine SemW.go tyT_ok mixed ?_
                    conv => arg 6; whnf
                    refine Holds.mk (by simp) ?_
                    refine SemW.cutW ?_ ?_ (by decide) rfl rfl (IH3 ⟨q + 1, hql⟩ (by show bk.length - (q + 1) < bk.length - q; omega))
                    · exact ⟨AvLe.refl _, AvLe.refl _, AvLe.refl _, AvLe.refl _, AvLe.refl _, AvLe.refl _, AvLe.of (incI (by omega)), trivial⟩
                    · exact ⟨⟨_, rfl, BlkLe.refl _⟩, ⟨_, rfl, BlkLe.refl _⟩, trivial⟩
              · refine SemW.go tyT_ok mixed ?_
                conv => arg 6; whnf
                refine Holds.mk (by simp) ?_
                refine SemW.call0 rfl rfl func13 rfl rfl ?_
                refine SemC.weakArgs (args' := [sF [⟨fi, bk⟩], aint wn, .val (.int .u64 (n + ((0 : Nat) : Int)))]) ⟨AvLe.refl _, AvLe.refl _, AvLe.of (by rw [Int.natCast_zero, Int.add_zero]), trivial⟩ ?_
                refine set_spec [⟨fi, bk⟩] wn (n + ((0 : Nat) : Int)) _ _ (by simp) (by simp; exact ⟨by omega, hf0⟩) (by omega) ⟨rfl, rfl, _, rfl, rfl, rfl, ?_⟩
                rw [hset 0 (Nat.zero_le _)]
                refine SemW.go tyT_ok mixed ?_
                conv => arg 6; whnf
                refine Holds.mk (by simp) ?_
                refine SemW.call0 rfl rfl func13 rfl rfl ?_
                refine SemC.weakArgs (args' := [sF [⟨fi, bk⟩], aint wn, .val (.int .u64 (n + (bk.length : Int)))]) ⟨AvLe.refl _, AvLe.refl _, AvLe.of (by show AV.val (.int .u64 (IntKind.u64.wrap (n + (bk.length : Int)))) = _; rw [hnw _ (Nat.le_refl _)]), trivial⟩ ?_
                refine set_spec [⟨fi, bk⟩] wn (n + (bk.length : Int)) _ _ (by simp) (by simp; exact ⟨by omega, hf0⟩) (by omega) ⟨rfl, rfl, _, rfl, rfl, rfl, ?_⟩
                rw [hset _ (Nat.le_refl _)]
                refine SemW.go tyT_ok mixed ?_
                conv => arg 6; whnf
                refine Holds.mk (by simp) ?_
                refine SemW.call0 rfl rfl func16 rfl rfl ?_
                refine same_spec _ _ _ _ (by rw [fromL_length]; omega) ⟨rfl, rfl, _, rfl, rfl, rfl, ?_⟩
                have esame : fromL bk (a + 0) wn = fromL bk (a + bk.length) wn := by
                  rw [← fromL_mod bk (a + bk.length) wn, Nat.add_mod_right, fromL_mod, Nat.add_zero]
                rw [decide_eq_true esame]
                refine SemW.go tyT_ok mixed ?_
                conv => arg 6; whnf
                refine Holds.mk (by simp) ?_
                refine SemW.go tyT_ok mixed ?_
                conv => arg 6; whnf
                refine Holds.mk (by simp) ?_
                refine SemW.call0 rfl rfl func12 rfl rfl ?_
                refine awake_spec _ _ ⟨rfl, rfl, _, rfl, rfl, rfl, ?_⟩
                refine SemW.go tyT_ok mixed ?_
                conv => arg 6; whnf
                refine Holds.mk (by simp) ?_
                refine SemW.ret0 tyT_ok func4 rfl rfl rfl ?_
                exact hQ
end Go.Proofs.Try
set_option linter.unusedVariables false
set_option linter.unusedSimpArgs false
open Go Go.AM
namespace Go.Proofs.Try
def cellsP (p : Pl) : List AV := [.val (.int .i64 p.node), .val (.int .u64 p.serial)]
def okP (p : Pl) : Prop := (-9223372036854775808 ≤ p.node ∧ p.node ≤ 9223372036854775807) ∧ 0 ≤ p.serial ∧ p.serial < 18446744073709551616
theorem wf_i64 {x : Int} (h : (Lit.int .i64 x).wf = true) : -9223372036854775808 ≤ x ∧ x ≤ 9223372036854775807 := by
  simp [Lit.wf, IntKind.min, IntKind.max, IntKind.signed, IntKind.bits] at h
  omega
theorem wf_u64 {x : Int} (h : (Lit.int .u64 x).wf = true) : 0 ≤ x ∧ x < 18446744073709551616 := by
  simp [Lit.wf, IntKind.min, IntKind.max, IntKind.signed, IntKind.bits] at h
  omega
theorem cellsOfP : 2 = Try.prog.cellsOf 32 := by kernel_rfl
theorem cellsOfF : 2 = Try.prog.cellsOf 25 := by kernel_rfl
theorem opP : OpA Try.prog 32 cellsP okP :=
  (opA_struct Try.underlying32 (n := 2) cellsOfP.symm (opF_cons (n1 := 1) (n2 := 1) rfl (opA_int Try.underlying3 (by kernel_rfl)) (by kernel_rfl) (opF_one rfl (opA_int Try.underlying22 (by kernel_rfl)) (by kernel_rfl)) rfl)).iso
    (fun x => ⟨x.1, x.2⟩) (fun _ => rfl) (fun _ => cellsOfP) (fun _ h => ⟨wf_i64 h.1, wf_u64 h.2⟩)
def okLP (l : List Pl) : Prop := l.length * 16 ≤ 140737488351232 ∧ ∀ p ∈ l, okP p
theorem opLP : OpA Try.prog 23 (fun l : List Pl => [sP l]) okLP :=
  (opA_slice (ag := true) Try.underlying23 (by kernel_rfl) opP (Nat.le_of_ble_eq_true (by kernel_rfl)) encP ⟨0, 0⟩ (fun _ => ⟨rfl, rfl⟩)).mono fun _ h => h
def cellsF (f : Fr) : List AV := [.val (.int .u64 f.first), sP f.books]
def okF (f : Fr) : Prop := (0 ≤ f.first ∧ f.first < 18446744073709551616) ∧ okLP f.books
theorem opF : OpA Try.prog 25 cellsF okF :=
  (opA_struct Try.underlying25 (n := 2) cellsOfF.symm (opF_cons (n1 := 1) (n2 := 1) rfl (opA_int Try.underlying22 (by kernel_rfl)) (by kernel_rfl) (opF_one rfl opLP (by kernel_rfl)) rfl)).iso
    (fun x => ⟨x.1, x.2⟩) (fun _ => rfl) (fun _ => cellsOfF) (fun _ h => ⟨wf_u64 h.1, h.2⟩)
end Go.Proofs.Try
