/- Part 5 of the proof of the row ReaderStays: written for this claim by the session and by a program of its own. -/
import Derived.Test.YtjoboiegkbmgmaaCReaderStaysp4
import Derived.Test.YtjoboiegkbmgmaaCReaderStaysp2
import Derived.Test.YtjoboiegkbmgmaaCReaderStaysp3
set_option linter.unusedVariables false
set_option linter.unusedSimpArgs false
open Go Go.AM
namespace Go.Proofs.Try
set_option maxRecDepth 100000
set_option maxHeartbeats 8000000
theorem stays_spec (l : Le) (n tag now : Int) (cs : List Ca) (h : Hp) (Q : AV → Hp → List Blk → Prop) (hl : l.frags.length < 2^40) (hc : cs.length < 2^40) (hlb : ∀ f ∈ l.frags, f.books.length < 2^40 ∧ 0 ≤ f.first) (hn : n ≤ 18446744073709551615)
    (hcs : ∀ c ∈ cs, c.resp.body.length < 2^40 ∧ c.led.frags.length < 2^40 ∧ ∀ f ∈ c.led.frags, f.books.length < 2^40 ∧ 0 ≤ f.first) (hQ : Q (abool true) h []) : SemC Try.prog 4 [encL l, au n, au tag, au now, sCa cs] h Q := by
  refine SemC.enter func4 rfl (Nat.le_of_ble_eq_true rfl) fresh fresh_nodup ?_
  refine SemW.entT rfl ?_
  repeat' first
    | contradiction
    | (refine SemW.splitG rfl (fun c => ?_) (fun c => ?_) <;> (fail_if_success (cases c; done)))
    | (refine SemDr.splitG rfl (fun c => ?_) (fun c => ?_) <;> (fail_if_success (cases c; done)))
    | (refine SemW.goP tyT_ok mixed ?_; (conv => arg 8; whnf); refine HoldsP.mk rfl (by first | trivial | (simp; done) | (simp; omega) | omega) ?_)
    | (refine SemDr.goP tyT_ok ?_; (conv => arg 12; whnf); refine HoldsDP.mk rfl (by first | trivial | (simp; done) | (simp; omega) | omega) ?_)
    | (refine SemDr.end rfl ?_)
    | (refine SemW.cond rfl (fun c => ?_) (fun c => ?_))
    | (refine SemW.call0 rfl rfl func10 rfl rfl ?_; refine heavy17_spec l cs _ _ hl hc (fun c hm => (hcs c hm).2.1) ⟨rfl, rfl, _, rfl, rfl, rfl, ?_⟩)
    | (refine SemDr.call0 rfl func10 rfl rfl ?_; refine heavy17_spec l cs _ _ hl hc (fun c hm => (hcs c hm).2.1) ⟨rfl, rfl, _, rfl, rfl, rfl, ?_⟩)
    | (refine SemW.call0 rfl rfl func11 rfl rfl ?_; refine awake17_spec _ _ ⟨rfl, rfl, _, rfl, rfl, rfl, ?_⟩)
    | (refine SemDr.call0 rfl func11 rfl rfl ?_; refine awake17_spec _ _ ⟨rfl, rfl, _, rfl, rfl, rfl, ?_⟩)
    | (refine SemW.call0 rfl rfl func12 rfl rfl ?_; refine rnew_spec l n tag now _ _ hl hlb hn ⟨rfl, rfl, _, rfl, rfl, rfl, ?_⟩)
    | (refine SemDr.call0 rfl func12 rfl rfl ?_; refine rnew_spec l n tag now _ _ hl hlb hn ⟨rfl, rfl, _, rfl, rfl, rfl, ?_⟩)
    | (refine SemW.draw mixed rfl rfl ?_)
  all_goals try
    (refine SemW.ret0 tyT_ok func4 rfl rfl rfl ?_; refine cast (congrArg (fun r => Q r h []) ?_) hQ; clear hQ; rfl)
  have hlb' := fun f hf => (hlb f hf).1
  have hnw := newF_ok hlb' (by assumption)
  refine SemW.loopG (X := {x : Nat × Fe × List Rq // x.1 ≤ cs.length ∧ x.2.1.n = n ∧ x.2.1.set.length < 2^40 ∧ x.2.1.body.length < 2^40}) (fun x => [(12, sQ x.1.2.2), (14, aint x.1.1)]) (fun x => [(1, .obj (cellsFe x.1.2.1))]) (fun x => cs.length - x.1.1) (⟨(0, (newF l n tag now).1, (newF l n tag now).2.1), Nat.zero_le _, hnw⟩) ?_
  conv => arg 15; whnf
  refine LoopC.mk ?sT ?sL (by decide) rfl rfl rfl ?_
  case sT => repeat' first | exact trivial | refine And.intro ?_ ?_ | (first | exact AvLe.of (incI (by omega)) | exact AvLe.of (incU (by omega)) | exact AvLe.of (decI (by omega)) | exact AvLe.refl _ | exact AvLe.sl (by first | rfl | (simp; done) | omega) (by first | exact Nat.le_refl _ | (simp; done) | omega) (by first | exact Nat.le_refl _ | (simp; done) | (simp; omega) | omega))
  case sL => repeat' first | exact trivial | refine And.intro ?_ ?_ | exact ⟨_, rfl, BlkLe.refl _⟩ | exact ⟨_, rfl, BlkLe.arr (by simp; done) (app1P rfl)⟩ | exact ⟨_, rfl, BlkLe.arr (by simp; done) (app1E rfl)⟩ | exact ⟨_, rfl, BlkLe.arr (by simp; done) (fun j _ => by simp [blt_zero]; done)⟩
  rintro ⟨⟨i, f, q⟩, hi, hfn, hfs, hfb⟩ IH
  dsimp only at hi hfn hfs hfb IH ⊢
  refine SemW.go tyT_ok mixed ?_
  conv => arg 7; whnf
  refine Holds.mk (by first | (simp; done) | (simp; omega) | omega) ?_
  refine SemW.cond rfl (fun c1 => ?_) (fun c1 => ?_)
  · have hil : i < cs.length := by simpa using c1
    have hci := hcs (cs.getD (i : Int).toNat C0) (by rw [Int.toNat_natCast]; simp [hil])
    refine SemW.goN tyT_ok 11 ?_
    conv => arg 7; whnf
    refine Holds.mk (by simp; omega) ?_
    obtain ⟨c, hcd⟩ : ∃ c, c = cs.getD (i : Int).toNat C0 := ⟨_, rfl⟩
    rw [← hcd] at hci
    refine SemW.tellB [(2, .obj (encCa c).cells)] ⟨⟨_, rfl, by rw [hcd, putCells_full (by rfl)]; exact BlkLe.refl _⟩, trivial⟩ ?_
    refine SemW.gc ?_
    conv => arg 7; whnf
    refine Holds.mk trivial ?_
    refine SemW.go tyT_ok mixed ?_
    conv => arg 7; whnf
    refine Holds.mk (by first | (simp; done) | (simp; omega) | omega) ?_
    refine SemW.cond rfl (fun c2 => ?_) (fun c2 => ?_)
    · refine SemW.draw mixed rfl rfl ?_
      refine SemDr.go tyT_ok ?_
      conv => arg 10; whnf
      refine HoldsD.mk (by simp) ?_
      refine SemDr.end rfl ?_
      obtain ⟨d, hd⟩ : ∃ d : Ca, d = { c with resp := { c.resp with kind := 3, ledger := l.id, n := n, epoch := tag }, led := { c.led with id := l.id } } := ⟨_, rfl⟩
      have hdi : d.resp.body.length < 2^40 ∧ d.led.frags.length < 2^40 ∧ ∀ f ∈ d.led.frags, f.books.length < 2^40 ∧ 0 ≤ f.first := by rw [hd]; exact hci
      refine SemW.tellB [(2, .obj (encCa d).cells)] ⟨⟨_, rfl, by rw [hd]; exact BlkLe.refl _⟩, trivial⟩ ?_
      clear hd hci
      refine SemW.dd ?_
      conv => arg 9; whnf
      refine SemW.gc ?_
      conv => arg 7; whnf
      refine Holds.mk trivial ?_
      refine SemW.go tyT_ok mixed ?_
      conv => arg 7; whnf
      refine Holds.mk (by first | (simp; done) | (simp; omega) | omega) ?_
      refine SemW.cond rfl (fun k1 => ?_) (fun k1 => ?_)
      · refine SemW.go tyT_ok mixed ?_
        conv => arg 7; whnf
        refine Holds.mk (by first | (simp; done) | (simp; omega) | omega) ?_
        refine SemW.call0 rfl rfl func13 rfl rfl ?_
        refine rtick_spec f d.now _ _ hfs hfb (fun x hx => ?_)
        obtain ⟨g, r⟩ := x
        have ok : StepOk f g r d.resp.src := by
          have := tickF_ok (t := d.now) d.resp.src hfs hfb
          rw [← hx] at this
          exact this
        clear hx
        refine ⟨rfl, rfl, _, rfl, rfl, rfl, ?_⟩
        refine SemW.go tyT_ok mixed ?_
        conv => arg 7; whnf
        refine Holds.mk (by first | (simp; done) | (simp; omega) | omega) ?_
        refine SemW.tellB [(1, .obj (cellsFe g)), (3, .obj (cellsFe f))] ⟨⟨_, rfl, by rw [putCells_full (by rfl)]; exact BlkLe.refl _⟩, ⟨_, rfl, by rw [putCells_full (by rfl)]; exact BlkLe.refl _⟩, trivial⟩ ?_
        refine SemW.dd ?_
        conv => arg 9; whnf
        refine SemW.gc ?_
        conv => arg 7; whnf
        refine Holds.mk trivial ?_
        clear hdi
        by_cases hd1 : f.done = 1
        · obtain ⟨e1, e2⟩ := ok.done hd1
          clear ok
          subst e2
          subst e1
          have x1 : ¬ ((g.done == 1) = false) := by simp [hd1]
          have x2 : ¬ ((g.done == 0) = true) := by simp [hd1]
          repeat' first
            | contradiction
            | (refine SemW.splitG rfl (fun c => ?_) (fun c => ?_) <;> (fail_if_success (cases c; done)))
            | (refine SemDr.splitG rfl (fun c => ?_) (fun c => ?_) <;> (fail_if_success (cases c; done)))
            | (refine SemW.goP tyT_ok mixed ?_; (conv => arg 8; whnf); refine HoldsP.mk rfl (by first | trivial | (simp; done) | (simp; omega) | omega) ?_)
            | (refine SemDr.goP tyT_ok ?_; (conv => arg 12; whnf); refine HoldsDP.mk rfl (by first | trivial | (simp; done) | (simp; omega) | omega) ?_)
            | (refine SemDr.end rfl ?_)
            | (refine SemW.cond rfl (fun c => ?_) (fun c => ?_))
            | (refine SemW.call0 rfl rfl func18 rfl rfl ?_; refine same17_spec _ _ _ (by assumption) ⟨rfl, rfl, _, rfl, rfl, rfl, ?_⟩)
            | (refine SemDr.call0 rfl func18 rfl rfl ?_; refine same17_spec _ _ _ (by assumption) ⟨rfl, rfl, _, rfl, rfl, rfl, ?_⟩)
            | (refine SemW.draw mixed rfl rfl ?_)
          refine SemW.back (IH ⟨(i + 1, g, []), hil, hfn, hfs, hfb⟩ (by show cs.length - (i + 1) < cs.length - i; omega)) ?bT ?bL rfl rfl (by decide) rfl rfl rfl
          case bT => repeat' first | exact trivial | refine And.intro ?_ ?_ | (first | exact AvLe.of (incI (by omega)) | exact AvLe.of (incU (by omega)) | exact AvLe.of (decI (by omega)) | exact AvLe.refl _ | exact AvLe.sl (by first | rfl | (simp; done) | omega) (by first | exact Nat.le_refl _ | (simp; done) | omega) (by first | exact Nat.le_refl _ | (simp; done) | (simp; omega) | omega))
          case bL => repeat' first | exact trivial | refine And.intro ?_ ?_ | exact ⟨_, rfl, BlkLe.refl _⟩ | exact ⟨_, rfl, BlkLe.arr (by simp; done) (app1P rfl)⟩ | exact ⟨_, rfl, BlkLe.arr (by simp; done) (app1E rfl)⟩ | exact ⟨_, rfl, BlkLe.arr (by simp; done) (fun j _ => by simp [blt_zero]; done)⟩
        · have x1 : ¬ ((f.done == 1) = true) := by simp [hd1]
          have x3 : ¬ (decide ((r.length : Int) > 1) = true) := by have := ok.len; simp; omega
          have o5 := ok.n
          have o6 := ok.src
          by_cases hr : r.length = 1
          · obtain ⟨o1, o2, o3, o4⟩ := ok.one hr
            have x4 : ¬ (((r.length : Int) == 1) = false) := by simp [hr]
            have x5 : ¬ (decide (g.at_ < 0) = true) := by simp; omega
            have x6 : ¬ (decide (g.at_ ≥ (g.set.length : Int)) = true) := by simp; omega
            repeat' first
              | contradiction
              | (refine SemW.splitG rfl (fun c => ?_) (fun c => ?_) <;> (fail_if_success (cases c; done)))
              | (refine SemDr.splitG rfl (fun c => ?_) (fun c => ?_) <;> (fail_if_success (cases c; done)))
              | (refine SemW.goP tyT_ok mixed ?_; (conv => arg 8; whnf); refine HoldsP.mk rfl (by first | trivial | (simp; done) | (simp; omega) | omega) ?_)
              | (refine SemDr.goP tyT_ok ?_; (conv => arg 12; whnf); refine HoldsDP.mk rfl (by first | trivial | (simp; done) | (simp; omega) | omega) ?_)
              | (refine SemDr.end rfl ?_)
              | (refine SemW.cond rfl (fun c => ?_) (fun c => ?_))
              | (refine SemW.call0 rfl rfl func19 rfl rfl ?_; refine has_spec f.set d.resp.src _ _ (by omega) ⟨rfl, rfl, _, rfl, rfl, rfl, ?_⟩)
              | (refine SemDr.call0 rfl func19 rfl rfl ?_; refine has_spec f.set d.resp.src _ _ (by omega) ⟨rfl, rfl, _, rfl, rfl, rfl, ?_⟩)
              | (refine SemW.draw mixed rfl rfl ?_)
            all_goals try (exfalso; have cc : (!f.set.any fun x => x == d.resp.src) = true := by assumption
                           rw [o6 (eq_of_beq (by assumption)) hd1] at cc; cases cc; done)
            all_goals try (exfalso; clear hQ IH o6; simp_all; done)
            all_goals
              refine SemW.back (IH ⟨(i + 1, g, r), hil, ok.n.trans hfn, ok.set, ok.body⟩ (by show cs.length - (i + 1) < cs.length - i; omega)) ?bT ?bL rfl rfl (by decide) rfl rfl rfl
              case bT => repeat' first | exact trivial | refine And.intro ?_ ?_ | (first | exact AvLe.of (incI (by omega)) | exact AvLe.of (incU (by omega)) | exact AvLe.of (decI (by omega)) | exact AvLe.refl _ | exact AvLe.sl (by first | rfl | (simp; done) | omega) (by first | exact Nat.le_refl _ | (simp; done) | omega) (by first | exact Nat.le_refl _ | (simp; done) | (simp; omega) | omega))
              case bL => repeat' first | exact trivial | refine And.intro ?_ ?_ | exact ⟨_, rfl, BlkLe.refl _⟩ | exact ⟨_, rfl, BlkLe.arr (by simp; done) (app1P rfl)⟩ | exact ⟨_, rfl, BlkLe.arr (by simp; done) (app1E rfl)⟩ | exact ⟨_, rfl, BlkLe.arr (by simp; done) (fun j _ => by simp [blt_zero]; done)⟩
          · have x4 : ¬ (((r.length : Int) == 1) = true) := by simp; omega
            repeat' first
              | contradiction
              | (refine SemW.splitG rfl (fun c => ?_) (fun c => ?_) <;> (fail_if_success (cases c; done)))
              | (refine SemDr.splitG rfl (fun c => ?_) (fun c => ?_) <;> (fail_if_success (cases c; done)))
              | (refine SemW.goP tyT_ok mixed ?_; (conv => arg 8; whnf); refine HoldsP.mk rfl (by first | trivial | (simp; done) | (simp; omega) | omega) ?_)
              | (refine SemDr.goP tyT_ok ?_; (conv => arg 12; whnf); refine HoldsDP.mk rfl (by first | trivial | (simp; done) | (simp; omega) | omega) ?_)
              | (refine SemDr.end rfl ?_)
              | (refine SemW.cond rfl (fun c => ?_) (fun c => ?_))
              | (refine SemW.call0 rfl rfl func19 rfl rfl ?_; refine has_spec f.set d.resp.src _ _ (by omega) ⟨rfl, rfl, _, rfl, rfl, rfl, ?_⟩)
              | (refine SemDr.call0 rfl func19 rfl rfl ?_; refine has_spec f.set d.resp.src _ _ (by omega) ⟨rfl, rfl, _, rfl, rfl, rfl, ?_⟩)
              | (refine SemW.draw mixed rfl rfl ?_)
            all_goals try (exfalso; have cc : (!f.set.any fun x => x == d.resp.src) = true := by assumption
                           rw [o6 (eq_of_beq (by assumption)) hd1] at cc; cases cc; done)
            all_goals try (exfalso; clear hQ IH o6; simp_all; done)
            all_goals
              refine SemW.back (IH ⟨(i + 1, g, r), hil, ok.n.trans hfn, ok.set, ok.body⟩ (by show cs.length - (i + 1) < cs.length - i; omega)) ?bT ?bL rfl rfl (by decide) rfl rfl rfl
              case bT => repeat' first | exact trivial | refine And.intro ?_ ?_ | (first | exact AvLe.of (incI (by omega)) | exact AvLe.of (incU (by omega)) | exact AvLe.of (decI (by omega)) | exact AvLe.refl _ | exact AvLe.sl (by first | rfl | (simp; done) | omega) (by first | exact Nat.le_refl _ | (simp; done) | omega) (by first | exact Nat.le_refl _ | (simp; done) | (simp; omega) | omega))
              case bL => repeat' first | exact trivial | refine And.intro ?_ ?_ | exact ⟨_, rfl, BlkLe.refl _⟩ | exact ⟨_, rfl, BlkLe.arr (by simp; done) (app1P rfl)⟩ | exact ⟨_, rfl, BlkLe.arr (by simp; done) (app1E rfl)⟩ | exact ⟨_, rfl, BlkLe.arr (by simp; done) (fun j _ => by simp [blt_zero]; done)⟩
      · refine SemW.go tyT_ok mixed ?_
        conv => arg 7; whnf
        refine Holds.mk (by first | (simp; done) | (simp; omega) | omega) ?_
        refine SemW.cond rfl (fun k2 => ?_) (fun k2 => ?_)
        · refine SemW.go tyT_ok mixed ?_
          conv => arg 7; whnf
          refine Holds.mk (by first | (simp; done) | (simp; omega) | omega) ?_
          refine SemW.call0 rfl rfl func17 rfl rfl ?_
          refine rmoved_spec f d.now d.led _ _ hfs hfb hdi.2.1 hdi.2.2 (by omega) (fun x hx => ?_)
          obtain ⟨g, r⟩ := x
          have ok : StepOk f g r d.resp.src := by
            have := movedF_ok (t := d.now) d.resp.src hfs hfb (fun f hf => (hdi.2.2 f hf).1)
            rw [← hx] at this
            exact this
          clear hx
          refine ⟨rfl, rfl, _, rfl, rfl, rfl, ?_⟩
          refine SemW.go tyT_ok mixed ?_
          conv => arg 7; whnf
          refine Holds.mk (by first | (simp; done) | (simp; omega) | omega) ?_
          refine SemW.tellB [(1, .obj (cellsFe g)), (3, .obj (cellsFe f))] ⟨⟨_, rfl, by rw [putCells_full (by rfl)]; exact BlkLe.refl _⟩, ⟨_, rfl, by rw [putCells_full (by rfl)]; exact BlkLe.refl _⟩, trivial⟩ ?_
          refine SemW.dd ?_
          conv => arg 9; whnf
          refine SemW.gc ?_
          conv => arg 7; whnf
          refine Holds.mk trivial ?_
          clear hdi
          by_cases hd1 : f.done = 1
          · obtain ⟨e1, e2⟩ := ok.done hd1
            clear ok
            subst e2
            subst e1
            have x1 : ¬ ((g.done == 1) = false) := by simp [hd1]
            have x2 : ¬ ((g.done == 0) = true) := by simp [hd1]
            repeat' first
              | contradiction
              | (refine SemW.splitG rfl (fun c => ?_) (fun c => ?_) <;> (fail_if_success (cases c; done)))
              | (refine SemDr.splitG rfl (fun c => ?_) (fun c => ?_) <;> (fail_if_success (cases c; done)))
              | (refine SemW.goP tyT_ok mixed ?_; (conv => arg 8; whnf); refine HoldsP.mk rfl (by first | trivial | (simp; done) | (simp; omega) | omega) ?_)
              | (refine SemDr.goP tyT_ok ?_; (conv => arg 12; whnf); refine HoldsDP.mk rfl (by first | trivial | (simp; done) | (simp; omega) | omega) ?_)
              | (refine SemDr.end rfl ?_)
              | (refine SemW.cond rfl (fun c => ?_) (fun c => ?_))
              | (refine SemW.call0 rfl rfl func18 rfl rfl ?_; refine same17_spec _ _ _ (by assumption) ⟨rfl, rfl, _, rfl, rfl, rfl, ?_⟩)
              | (refine SemDr.call0 rfl func18 rfl rfl ?_; refine same17_spec _ _ _ (by assumption) ⟨rfl, rfl, _, rfl, rfl, rfl, ?_⟩)
              | (refine SemW.draw mixed rfl rfl ?_)
            refine SemW.back (IH ⟨(i + 1, g, []), hil, hfn, hfs, hfb⟩ (by show cs.length - (i + 1) < cs.length - i; omega)) ?bT ?bL rfl rfl (by decide) rfl rfl rfl
            case bT => repeat' first | exact trivial | refine And.intro ?_ ?_ | (first | exact AvLe.of (incI (by omega)) | exact AvLe.of (incU (by omega)) | exact AvLe.of (decI (by omega)) | exact AvLe.refl _ | exact AvLe.sl (by first | rfl | (simp; done) | omega) (by first | exact Nat.le_refl _ | (simp; done) | omega) (by first | exact Nat.le_refl _ | (simp; done) | (simp; omega) | omega))
            case bL => repeat' first | exact trivial | refine And.intro ?_ ?_ | exact ⟨_, rfl, BlkLe.refl _⟩ | exact ⟨_, rfl, BlkLe.arr (by simp; done) (app1P rfl)⟩ | exact ⟨_, rfl, BlkLe.arr (by simp; done) (app1E rfl)⟩ | exact ⟨_, rfl, BlkLe.arr (by simp; done) (fun j _ => by simp [blt_zero]; done)⟩
          · have x1 : ¬ ((f.done == 1) = true) := by simp [hd1]
            have x3 : ¬ (decide ((r.length : Int) > 1) = true) := by have := ok.len; simp; omega
            have o5 := ok.n
            have o6 := ok.src
            by_cases hr : r.length = 1
            · obtain ⟨o1, o2, o3, o4⟩ := ok.one hr
              have x4 : ¬ (((r.length : Int) == 1) = false) := by simp [hr]
              have x5 : ¬ (decide (g.at_ < 0) = true) := by simp; omega
              have x6 : ¬ (decide (g.at_ ≥ (g.set.length : Int)) = true) := by simp; omega
              repeat' first
                | contradiction
                | (refine SemW.splitG rfl (fun c => ?_) (fun c => ?_) <;> (fail_if_success (cases c; done)))
                | (refine SemDr.splitG rfl (fun c => ?_) (fun c => ?_) <;> (fail_if_success (cases c; done)))
                | (refine SemW.goP tyT_ok mixed ?_; (conv => arg 8; whnf); refine HoldsP.mk rfl (by first | trivial | (simp; done) | (simp; omega) | omega) ?_)
                | (refine SemDr.goP tyT_ok ?_; (conv => arg 12; whnf); refine HoldsDP.mk rfl (by first | trivial | (simp; done) | (simp; omega) | omega) ?_)
                | (refine SemDr.end rfl ?_)
                | (refine SemW.cond rfl (fun c => ?_) (fun c => ?_))
                | (refine SemW.call0 rfl rfl func19 rfl rfl ?_; refine has_spec f.set d.resp.src _ _ (by omega) ⟨rfl, rfl, _, rfl, rfl, rfl, ?_⟩)
                | (refine SemDr.call0 rfl func19 rfl rfl ?_; refine has_spec f.set d.resp.src _ _ (by omega) ⟨rfl, rfl, _, rfl, rfl, rfl, ?_⟩)
                | (refine SemW.draw mixed rfl rfl ?_)
              all_goals try (exfalso; have cc : (!f.set.any fun x => x == d.resp.src) = true := by assumption
                             rw [o6 (eq_of_beq (by assumption)) hd1] at cc; cases cc; done)
              all_goals try (exfalso; clear hQ IH o6; simp_all; done)
              all_goals
                refine SemW.back (IH ⟨(i + 1, g, r), hil, ok.n.trans hfn, ok.set, ok.body⟩ (by show cs.length - (i + 1) < cs.length - i; omega)) ?bT ?bL rfl rfl (by decide) rfl rfl rfl
                case bT => repeat' first | exact trivial | refine And.intro ?_ ?_ | (first | exact AvLe.of (incI (by omega)) | exact AvLe.of (incU (by omega)) | exact AvLe.of (decI (by omega)) | exact AvLe.refl _ | exact AvLe.sl (by first | rfl | (simp; done) | omega) (by first | exact Nat.le_refl _ | (simp; done) | omega) (by first | exact Nat.le_refl _ | (simp; done) | (simp; omega) | omega))
                case bL => repeat' first | exact trivial | refine And.intro ?_ ?_ | exact ⟨_, rfl, BlkLe.refl _⟩ | exact ⟨_, rfl, BlkLe.arr (by simp; done) (app1P rfl)⟩ | exact ⟨_, rfl, BlkLe.arr (by simp; done) (app1E rfl)⟩ | exact ⟨_, rfl, BlkLe.arr (by simp; done) (fun j _ => by simp [blt_zero]; done)⟩
            · have x4 : ¬ (((r.length : Int) == 1) = true) := by simp; omega
              repeat' first
                | contradiction
                | (refine SemW.splitG rfl (fun c => ?_) (fun c => ?_) <;> (fail_if_success (cases c; done)))
                | (refine SemDr.splitG rfl (fun c => ?_) (fun c => ?_) <;> (fail_if_success (cases c; done)))
                | (refine SemW.goP tyT_ok mixed ?_; (conv => arg 8; whnf); refine HoldsP.mk rfl (by first | trivial | (simp; done) | (simp; omega) | omega) ?_)
                | (refine SemDr.goP tyT_ok ?_; (conv => arg 12; whnf); refine HoldsDP.mk rfl (by first | trivial | (simp; done) | (simp; omega) | omega) ?_)
                | (refine SemDr.end rfl ?_)
                | (refine SemW.cond rfl (fun c => ?_) (fun c => ?_))
                | (refine SemW.call0 rfl rfl func19 rfl rfl ?_; refine has_spec f.set d.resp.src _ _ (by omega) ⟨rfl, rfl, _, rfl, rfl, rfl, ?_⟩)
                | (refine SemDr.call0 rfl func19 rfl rfl ?_; refine has_spec f.set d.resp.src _ _ (by omega) ⟨rfl, rfl, _, rfl, rfl, rfl, ?_⟩)
                | (refine SemW.draw mixed rfl rfl ?_)
              all_goals try (exfalso; have cc : (!f.set.any fun x => x == d.resp.src) = true := by assumption
                             rw [o6 (eq_of_beq (by assumption)) hd1] at cc; cases cc; done)
              all_goals try (exfalso; clear hQ IH o6; simp_all; done)
              all_goals
                refine SemW.back (IH ⟨(i + 1, g, r), hil, ok.n.trans hfn, ok.set, ok.body⟩ (by show cs.length - (i + 1) < cs.length - i; omega)) ?bT ?bL rfl rfl (by decide) rfl rfl rfl
                case bT => repeat' first | exact trivial | refine And.intro ?_ ?_ | (first | exact AvLe.of (incI (by omega)) | exact AvLe.of (incU (by omega)) | exact AvLe.of (decI (by omega)) | exact AvLe.refl _ | exact AvLe.sl (by first | rfl | (simp; done) | omega) (by first | exact Nat.le_refl _ | (simp; done) | omega) (by first | exact Nat.le_refl _ | (simp; done) | (simp; omega) | omega))
                case bL => repeat' first | exact trivial | refine And.intro ?_ ?_ | exact ⟨_, rfl, BlkLe.refl _⟩ | exact ⟨_, rfl, BlkLe.arr (by simp; done) (app1P rfl)⟩ | exact ⟨_, rfl, BlkLe.arr (by simp; done) (app1E rfl)⟩ | exact ⟨_, rfl, BlkLe.arr (by simp; done) (fun j _ => by simp [blt_zero]; done)⟩
        · refine SemW.go tyT_ok mixed ?_
          conv => arg 7; whnf
          refine Holds.mk (by first | (simp; done) | (simp; omega) | omega) ?_
          refine SemW.call0 rfl rfl func16 rfl rfl ?_
          refine rtake_spec f d.now d.resp _ _ hfs hfb hdi.1 (fun x hx => ?_)
          obtain ⟨g, r⟩ := x
          have ok : StepOk f g r d.resp.src := by
            have := takeF_ok (t := d.now) (r := d.resp) hfs hfb hdi.1
            rw [← hx] at this
            exact this
          clear hx
          refine ⟨rfl, rfl, _, rfl, rfl, rfl, ?_⟩
          refine SemW.go tyT_ok mixed ?_
          conv => arg 7; whnf
          refine Holds.mk (by first | (simp; done) | (simp; omega) | omega) ?_
          refine SemW.tellB [(1, .obj (cellsFe g)), (3, .obj (cellsFe f))] ⟨⟨_, rfl, by rw [putCells_full (by rfl)]; exact BlkLe.refl _⟩, ⟨_, rfl, by rw [putCells_full (by rfl)]; exact BlkLe.refl _⟩, trivial⟩ ?_
          refine SemW.dd ?_
          conv => arg 9; whnf
          refine SemW.gc ?_
          conv => arg 7; whnf
          refine Holds.mk trivial ?_
          clear hdi
          by_cases hd1 : f.done = 1
          · obtain ⟨e1, e2⟩ := ok.done hd1
            clear ok
            subst e2
            subst e1
            have x1 : ¬ ((g.done == 1) = false) := by simp [hd1]
            have x2 : ¬ ((g.done == 0) = true) := by simp [hd1]
            repeat' first
              | contradiction
              | (refine SemW.splitG rfl (fun c => ?_) (fun c => ?_) <;> (fail_if_success (cases c; done)))
              | (refine SemDr.splitG rfl (fun c => ?_) (fun c => ?_) <;> (fail_if_success (cases c; done)))
              | (refine SemW.goP tyT_ok mixed ?_; (conv => arg 8; whnf); refine HoldsP.mk rfl (by first | trivial | (simp; done) | (simp; omega) | omega) ?_)
              | (refine SemDr.goP tyT_ok ?_; (conv => arg 12; whnf); refine HoldsDP.mk rfl (by first | trivial | (simp; done) | (simp; omega) | omega) ?_)
              | (refine SemDr.end rfl ?_)
              | (refine SemW.cond rfl (fun c => ?_) (fun c => ?_))
              | (refine SemW.call0 rfl rfl func18 rfl rfl ?_; refine same17_spec _ _ _ (by assumption) ⟨rfl, rfl, _, rfl, rfl, rfl, ?_⟩)
              | (refine SemDr.call0 rfl func18 rfl rfl ?_; refine same17_spec _ _ _ (by assumption) ⟨rfl, rfl, _, rfl, rfl, rfl, ?_⟩)
              | (refine SemW.draw mixed rfl rfl ?_)
            refine SemW.back (IH ⟨(i + 1, g, []), hil, hfn, hfs, hfb⟩ (by show cs.length - (i + 1) < cs.length - i; omega)) ?bT ?bL rfl rfl (by decide) rfl rfl rfl
            case bT => repeat' first | exact trivial | refine And.intro ?_ ?_ | (first | exact AvLe.of (incI (by omega)) | exact AvLe.of (incU (by omega)) | exact AvLe.of (decI (by omega)) | exact AvLe.refl _ | exact AvLe.sl (by first | rfl | (simp; done) | omega) (by first | exact Nat.le_refl _ | (simp; done) | omega) (by first | exact Nat.le_refl _ | (simp; done) | (simp; omega) | omega))
            case bL => repeat' first | exact trivial | refine And.intro ?_ ?_ | exact ⟨_, rfl, BlkLe.refl _⟩ | exact ⟨_, rfl, BlkLe.arr (by simp; done) (app1P rfl)⟩ | exact ⟨_, rfl, BlkLe.arr (by simp; done) (app1E rfl)⟩ | exact ⟨_, rfl, BlkLe.arr (by simp; done) (fun j _ => by simp [blt_zero]; done)⟩
          · have x1 : ¬ ((f.done == 1) = true) := by simp [hd1]
            have x3 : ¬ (decide ((r.length : Int) > 1) = true) := by have := ok.len; simp; omega
            have o5 := ok.n
            have o6 := ok.src
            by_cases hr : r.length = 1
            · obtain ⟨o1, o2, o3, o4⟩ := ok.one hr
              have x4 : ¬ (((r.length : Int) == 1) = false) := by simp [hr]
              have x5 : ¬ (decide (g.at_ < 0) = true) := by simp; omega
              have x6 : ¬ (decide (g.at_ ≥ (g.set.length : Int)) = true) := by simp; omega
              repeat' first
                | contradiction
                | (refine SemW.splitG rfl (fun c => ?_) (fun c => ?_) <;> (fail_if_success (cases c; done)))
                | (refine SemDr.splitG rfl (fun c => ?_) (fun c => ?_) <;> (fail_if_success (cases c; done)))
                | (refine SemW.goP tyT_ok mixed ?_; (conv => arg 8; whnf); refine HoldsP.mk rfl (by first | trivial | (simp; done) | (simp; omega) | omega) ?_)
                | (refine SemDr.goP tyT_ok ?_; (conv => arg 12; whnf); refine HoldsDP.mk rfl (by first | trivial | (simp; done) | (simp; omega) | omega) ?_)
                | (refine SemDr.end rfl ?_)
                | (refine SemW.cond rfl (fun c => ?_) (fun c => ?_))
                | (refine SemW.call0 rfl rfl func19 rfl rfl ?_; refine has_spec f.set d.resp.src _ _ (by omega) ⟨rfl, rfl, _, rfl, rfl, rfl, ?_⟩)
                | (refine SemDr.call0 rfl func19 rfl rfl ?_; refine has_spec f.set d.resp.src _ _ (by omega) ⟨rfl, rfl, _, rfl, rfl, rfl, ?_⟩)
                | (refine SemW.draw mixed rfl rfl ?_)
              all_goals try (exfalso; have cc : (!f.set.any fun x => x == d.resp.src) = true := by assumption
                             rw [o6 (eq_of_beq (by assumption)) hd1] at cc; cases cc; done)
              all_goals try (exfalso; clear hQ IH o6; simp_all; done)
              all_goals
                refine SemW.back (IH ⟨(i + 1, g, r), hil, ok.n.trans hfn, ok.set, ok.body⟩ (by show cs.length - (i + 1) < cs.length - i; omega)) ?bT ?bL rfl rfl (by decide) rfl rfl rfl
                case bT => repeat' first | exact trivial | refine And.intro ?_ ?_ | (first | exact AvLe.of (incI (by omega)) | exact AvLe.of (incU (by omega)) | exact AvLe.of (decI (by omega)) | exact AvLe.refl _ | exact AvLe.sl (by first | rfl | (simp; done) | omega) (by first | exact Nat.le_refl _ | (simp; done) | omega) (by first | exact Nat.le_refl _ | (simp; done) | (simp; omega) | omega))
                case bL => repeat' first | exact trivial | refine And.intro ?_ ?_ | exact ⟨_, rfl, BlkLe.refl _⟩ | exact ⟨_, rfl, BlkLe.arr (by simp; done) (app1P rfl)⟩ | exact ⟨_, rfl, BlkLe.arr (by simp; done) (app1E rfl)⟩ | exact ⟨_, rfl, BlkLe.arr (by simp; done) (fun j _ => by simp [blt_zero]; done)⟩
            · have x4 : ¬ (((r.length : Int) == 1) = true) := by simp; omega
              repeat' first
                | contradiction
                | (refine SemW.splitG rfl (fun c => ?_) (fun c => ?_) <;> (fail_if_success (cases c; done)))
                | (refine SemDr.splitG rfl (fun c => ?_) (fun c => ?_) <;> (fail_if_success (cases c; done)))
                | (refine SemW.goP tyT_ok mixed ?_; (conv => arg 8; whnf); refine HoldsP.mk rfl (by first | trivial | (simp; done) | (simp; omega) | omega) ?_)
                | (refine SemDr.goP tyT_ok ?_; (conv => arg 12; whnf); refine HoldsDP.mk rfl (by first | trivial | (simp; done) | (simp; omega) | omega) ?_)
                | (refine SemDr.end rfl ?_)
                | (refine SemW.cond rfl (fun c => ?_) (fun c => ?_))
                | (refine SemW.call0 rfl rfl func19 rfl rfl ?_; refine has_spec f.set d.resp.src _ _ (by omega) ⟨rfl, rfl, _, rfl, rfl, rfl, ?_⟩)
                | (refine SemDr.call0 rfl func19 rfl rfl ?_; refine has_spec f.set d.resp.src _ _ (by omega) ⟨rfl, rfl, _, rfl, rfl, rfl, ?_⟩)
                | (refine SemW.draw mixed rfl rfl ?_)
              all_goals try (exfalso; have cc : (!f.set.any fun x => x == d.resp.src) = true := by assumption
                             rw [o6 (eq_of_beq (by assumption)) hd1] at cc; cases cc; done)
              all_goals try (exfalso; clear hQ IH o6; simp_all; done)
              all_goals
                refine SemW.back (IH ⟨(i + 1, g, r), hil, ok.n.trans hfn, ok.set, ok.body⟩ (by show cs.length - (i + 1) < cs.length - i; omega)) ?bT ?bL rfl rfl (by decide) rfl rfl rfl
                case bT => repeat' first | exact trivial | refine And.intro ?_ ?_ | (first | exact AvLe.of (incI (by omega)) | exact AvLe.of (incU (by omega)) | exact AvLe.of (decI (by omega)) | exact AvLe.refl _ | exact AvLe.sl (by first | rfl | (simp; done) | omega) (by first | exact Nat.le_refl _ | (simp; done) | omega) (by first | exact Nat.le_refl _ | (simp; done) | (simp; omega) | omega))
                case bL => repeat' first | exact trivial | refine And.intro ?_ ?_ | exact ⟨_, rfl, BlkLe.refl _⟩ | exact ⟨_, rfl, BlkLe.arr (by simp; done) (app1P rfl)⟩ | exact ⟨_, rfl, BlkLe.arr (by simp; done) (app1E rfl)⟩ | exact ⟨_, rfl, BlkLe.arr (by simp; done) (fun j _ => by simp [blt_zero]; done)⟩
    · obtain ⟨d, hd⟩ : ∃ d : Ca, d = c := ⟨_, rfl⟩
      have hdi : d.resp.body.length < 2^40 ∧ d.led.frags.length < 2^40 ∧ ∀ f ∈ d.led.frags, f.books.length < 2^40 ∧ 0 ≤ f.first := by rw [hd]; exact hci
      refine SemW.tellB [(2, .obj (encCa d).cells)] ⟨⟨_, rfl, by rw [hd]; exact BlkLe.refl _⟩, trivial⟩ ?_
      clear hd hci
      refine SemW.dd ?_
      conv => arg 9; whnf
      refine SemW.gc ?_
      conv => arg 7; whnf
      refine Holds.mk trivial ?_
      refine SemW.go tyT_ok mixed ?_
      conv => arg 7; whnf
      refine Holds.mk (by first | (simp; done) | (simp; omega) | omega) ?_
      refine SemW.cond rfl (fun k1 => ?_) (fun k1 => ?_)
      · refine SemW.go tyT_ok mixed ?_
        conv => arg 7; whnf
        refine Holds.mk (by first | (simp; done) | (simp; omega) | omega) ?_
        refine SemW.call0 rfl rfl func13 rfl rfl ?_
        refine rtick_spec f d.now _ _ hfs hfb (fun x hx => ?_)
        obtain ⟨g, r⟩ := x
        have ok : StepOk f g r d.resp.src := by
          have := tickF_ok (t := d.now) d.resp.src hfs hfb
          rw [← hx] at this
          exact this
        clear hx
        refine ⟨rfl, rfl, _, rfl, rfl, rfl, ?_⟩
        refine SemW.go tyT_ok mixed ?_
        conv => arg 7; whnf
        refine Holds.mk (by first | (simp; done) | (simp; omega) | omega) ?_
        refine SemW.tellB [(1, .obj (cellsFe g)), (3, .obj (cellsFe f))] ⟨⟨_, rfl, by rw [putCells_full (by rfl)]; exact BlkLe.refl _⟩, ⟨_, rfl, by rw [putCells_full (by rfl)]; exact BlkLe.refl _⟩, trivial⟩ ?_
        refine SemW.dd ?_
        conv => arg 9; whnf
        refine SemW.gc ?_
        conv => arg 7; whnf
        refine Holds.mk trivial ?_
        clear hdi
        by_cases hd1 : f.done = 1
        · obtain ⟨e1, e2⟩ := ok.done hd1
          clear ok
          subst e2
          subst e1
          have x1 : ¬ ((g.done == 1) = false) := by simp [hd1]
          have x2 : ¬ ((g.done == 0) = true) := by simp [hd1]
          repeat' first
            | contradiction
            | (refine SemW.splitG rfl (fun c => ?_) (fun c => ?_) <;> (fail_if_success (cases c; done)))
            | (refine SemDr.splitG rfl (fun c => ?_) (fun c => ?_) <;> (fail_if_success (cases c; done)))
            | (refine SemW.goP tyT_ok mixed ?_; (conv => arg 8; whnf); refine HoldsP.mk rfl (by first | trivial | (simp; done) | (simp; omega) | omega) ?_)
            | (refine SemDr.goP tyT_ok ?_; (conv => arg 12; whnf); refine HoldsDP.mk rfl (by first | trivial | (simp; done) | (simp; omega) | omega) ?_)
            | (refine SemDr.end rfl ?_)
            | (refine SemW.cond rfl (fun c => ?_) (fun c => ?_))
            | (refine SemW.call0 rfl rfl func18 rfl rfl ?_; refine same17_spec _ _ _ (by assumption) ⟨rfl, rfl, _, rfl, rfl, rfl, ?_⟩)
            | (refine SemDr.call0 rfl func18 rfl rfl ?_; refine same17_spec _ _ _ (by assumption) ⟨rfl, rfl, _, rfl, rfl, rfl, ?_⟩)
            | (refine SemW.draw mixed rfl rfl ?_)
          refine SemW.back (IH ⟨(i + 1, g, []), hil, hfn, hfs, hfb⟩ (by show cs.length - (i + 1) < cs.length - i; omega)) ?bT ?bL rfl rfl (by decide) rfl rfl rfl
          case bT => repeat' first | exact trivial | refine And.intro ?_ ?_ | (first | exact AvLe.of (incI (by omega)) | exact AvLe.of (incU (by omega)) | exact AvLe.of (decI (by omega)) | exact AvLe.refl _ | exact AvLe.sl (by first | rfl | (simp; done) | omega) (by first | exact Nat.le_refl _ | (simp; done) | omega) (by first | exact Nat.le_refl _ | (simp; done) | (simp; omega) | omega))
          case bL => repeat' first | exact trivial | refine And.intro ?_ ?_ | exact ⟨_, rfl, BlkLe.refl _⟩ | exact ⟨_, rfl, BlkLe.arr (by simp; done) (app1P rfl)⟩ | exact ⟨_, rfl, BlkLe.arr (by simp; done) (app1E rfl)⟩ | exact ⟨_, rfl, BlkLe.arr (by simp; done) (fun j _ => by simp [blt_zero]; done)⟩
        · have x1 : ¬ ((f.done == 1) = true) := by simp [hd1]
          have x3 : ¬ (decide ((r.length : Int) > 1) = true) := by have := ok.len; simp; omega
          have o5 := ok.n
          have o6 := ok.src
          by_cases hr : r.length = 1
          · obtain ⟨o1, o2, o3, o4⟩ := ok.one hr
            have x4 : ¬ (((r.length : Int) == 1) = false) := by simp [hr]
            have x5 : ¬ (decide (g.at_ < 0) = true) := by simp; omega
            have x6 : ¬ (decide (g.at_ ≥ (g.set.length : Int)) = true) := by simp; omega
            repeat' first
              | contradiction
              | (refine SemW.splitG rfl (fun c => ?_) (fun c => ?_) <;> (fail_if_success (cases c; done)))
              | (refine SemDr.splitG rfl (fun c => ?_) (fun c => ?_) <;> (fail_if_success (cases c; done)))
              | (refine SemW.goP tyT_ok mixed ?_; (conv => arg 8; whnf); refine HoldsP.mk rfl (by first | trivial | (simp; done) | (simp; omega) | omega) ?_)
              | (refine SemDr.goP tyT_ok ?_; (conv => arg 12; whnf); refine HoldsDP.mk rfl (by first | trivial | (simp; done) | (simp; omega) | omega) ?_)
              | (refine SemDr.end rfl ?_)
              | (refine SemW.cond rfl (fun c => ?_) (fun c => ?_))
              | (refine SemW.call0 rfl rfl func19 rfl rfl ?_; refine has_spec f.set d.resp.src _ _ (by omega) ⟨rfl, rfl, _, rfl, rfl, rfl, ?_⟩)
              | (refine SemDr.call0 rfl func19 rfl rfl ?_; refine has_spec f.set d.resp.src _ _ (by omega) ⟨rfl, rfl, _, rfl, rfl, rfl, ?_⟩)
              | (refine SemW.draw mixed rfl rfl ?_)
            all_goals try (exfalso; have cc : (!f.set.any fun x => x == d.resp.src) = true := by assumption
                           rw [o6 (eq_of_beq (by assumption)) hd1] at cc; cases cc; done)
            all_goals try (exfalso; clear hQ IH o6; simp_all; done)
            all_goals
              refine SemW.back (IH ⟨(i + 1, g, r), hil, ok.n.trans hfn, ok.set, ok.body⟩ (by show cs.length - (i + 1) < cs.length - i; omega)) ?bT ?bL rfl rfl (by decide) rfl rfl rfl
              case bT => repeat' first | exact trivial | refine And.intro ?_ ?_ | (first | exact AvLe.of (incI (by omega)) | exact AvLe.of (incU (by omega)) | exact AvLe.of (decI (by omega)) | exact AvLe.refl _ | exact AvLe.sl (by first | rfl | (simp; done) | omega) (by first | exact Nat.le_refl _ | (simp; done) | omega) (by first | exact Nat.le_refl _ | (simp; done) | (simp; omega) | omega))
              case bL => repeat' first | exact trivial | refine And.intro ?_ ?_ | exact ⟨_, rfl, BlkLe.refl _⟩ | exact ⟨_, rfl, BlkLe.arr (by simp; done) (app1P rfl)⟩ | exact ⟨_, rfl, BlkLe.arr (by simp; done) (app1E rfl)⟩ | exact ⟨_, rfl, BlkLe.arr (by simp; done) (fun j _ => by simp [blt_zero]; done)⟩
          · have x4 : ¬ (((r.length : Int) == 1) = true) := by simp; omega
            repeat' first
              | contradiction
              | (refine SemW.splitG rfl (fun c => ?_) (fun c => ?_) <;> (fail_if_success (cases c; done)))
              | (refine SemDr.splitG rfl (fun c => ?_) (fun c => ?_) <;> (fail_if_success (cases c; done)))
              | (refine SemW.goP tyT_ok mixed ?_; (conv => arg 8; whnf); refine HoldsP.mk rfl (by first | trivial | (simp; done) | (simp; omega) | omega) ?_)
              | (refine SemDr.goP tyT_ok ?_; (conv => arg 12; whnf); refine HoldsDP.mk rfl (by first | trivial | (simp; done) | (simp; omega) | omega) ?_)
              | (refine SemDr.end rfl ?_)
              | (refine SemW.cond rfl (fun c => ?_) (fun c => ?_))
              | (refine SemW.call0 rfl rfl func19 rfl rfl ?_; refine has_spec f.set d.resp.src _ _ (by omega) ⟨rfl, rfl, _, rfl, rfl, rfl, ?_⟩)
              | (refine SemDr.call0 rfl func19 rfl rfl ?_; refine has_spec f.set d.resp.src _ _ (by omega) ⟨rfl, rfl, _, rfl, rfl, rfl, ?_⟩)
              | (refine SemW.draw mixed rfl rfl ?_)
            all_goals try (exfalso; have cc : (!f.set.any fun x => x == d.resp.src) = true := by assumption
                           rw [o6 (eq_of_beq (by assumption)) hd1] at cc; cases cc; done)
            all_goals try (exfalso; clear hQ IH o6; simp_all; done)
            all_goals
              refine SemW.back (IH ⟨(i + 1, g, r), hil, ok.n.trans hfn, ok.set, ok.body⟩ (by show cs.length - (i + 1) < cs.length - i; omega)) ?bT ?bL rfl rfl (by decide) rfl rfl rfl
              case bT => repeat' first | exact trivial | refine And.intro ?_ ?_ | (first | exact AvLe.of (incI (by omega)) | exact AvLe.of (incU (by omega)) | exact AvLe.of (decI (by omega)) | exact AvLe.refl _ | exact AvLe.sl (by first | rfl | (simp; done) | omega) (by first | exact Nat.le_refl _ | (simp; done) | omega) (by first | exact Nat.le_refl _ | (simp; done) | (simp; omega) | omega))
              case bL => repeat' first | exact trivial | refine And.intro ?_ ?_ | exact ⟨_, rfl, BlkLe.refl _⟩ | exact ⟨_, rfl, BlkLe.arr (by simp; done) (app1P rfl)⟩ | exact ⟨_, rfl, BlkLe.arr (by simp; done) (app1E rfl)⟩ | exact ⟨_, rfl, BlkLe.arr (by simp; done) (fun j _ => by simp [blt_zero]; done)⟩
      · refine SemW.go tyT_ok mixed ?_
        conv => arg 7; whnf
        refine Holds.mk (by first | (simp; done) | (simp; omega) | omega) ?_
        refine SemW.cond rfl (fun k2 => ?_) (fun k2 => ?_)
        · refine SemW.go tyT_ok mixed ?_
          conv => arg 7; whnf
          refine Holds.mk (by first | (simp; done) | (simp; omega) | omega) ?_
          refine SemW.call0 rfl rfl func17 rfl rfl ?_
          refine rmoved_spec f d.now d.led _ _ hfs hfb hdi.2.1 hdi.2.2 (by omega) (fun x hx => ?_)
          obtain ⟨g, r⟩ := x
          have ok : StepOk f g r d.resp.src := by
            have := movedF_ok (t := d.now) d.resp.src hfs hfb (fun f hf => (hdi.2.2 f hf).1)
            rw [← hx] at this
            exact this
          clear hx
          refine ⟨rfl, rfl, _, rfl, rfl, rfl, ?_⟩
          refine SemW.go tyT_ok mixed ?_
          conv => arg 7; whnf
          refine Holds.mk (by first | (simp; done) | (simp; omega) | omega) ?_
          refine SemW.tellB [(1, .obj (cellsFe g)), (3, .obj (cellsFe f))] ⟨⟨_, rfl, by rw [putCells_full (by rfl)]; exact BlkLe.refl _⟩, ⟨_, rfl, by rw [putCells_full (by rfl)]; exact BlkLe.refl _⟩, trivial⟩ ?_
          refine SemW.dd ?_
          conv => arg 9; whnf
          refine SemW.gc ?_
          conv => arg 7; whnf
          refine Holds.mk trivial ?_
          clear hdi
          by_cases hd1 : f.done = 1
          · obtain ⟨e1, e2⟩ := ok.done hd1
            clear ok
            subst e2
            subst e1
            have x1 : ¬ ((g.done == 1) = false) := by simp [hd1]
            have x2 : ¬ ((g.done == 0) = true) := by simp [hd1]
            repeat' first
              | contradiction
              | (refine SemW.splitG rfl (fun c => ?_) (fun c => ?_) <;> (fail_if_success (cases c; done)))
              | (refine SemDr.splitG rfl (fun c => ?_) (fun c => ?_) <;> (fail_if_success (cases c; done)))
              | (refine SemW.goP tyT_ok mixed ?_; (conv => arg 8; whnf); refine HoldsP.mk rfl (by first | trivial | (simp; done) | (simp; omega) | omega) ?_)
              | (refine SemDr.goP tyT_ok ?_; (conv => arg 12; whnf); refine HoldsDP.mk rfl (by first | trivial | (simp; done) | (simp; omega) | omega) ?_)
              | (refine SemDr.end rfl ?_)
              | (refine SemW.cond rfl (fun c => ?_) (fun c => ?_))
              | (refine SemW.call0 rfl rfl func18 rfl rfl ?_; refine same17_spec _ _ _ (by assumption) ⟨rfl, rfl, _, rfl, rfl, rfl, ?_⟩)
              | (refine SemDr.call0 rfl func18 rfl rfl ?_; refine same17_spec _ _ _ (by assumption) ⟨rfl, rfl, _, rfl, rfl, rfl, ?_⟩)
              | (refine SemW.draw mixed rfl rfl ?_)
            refine SemW.back (IH ⟨(i + 1, g, []), hil, hfn, hfs, hfb⟩ (by show cs.length - (i + 1) < cs.length - i; omega)) ?bT ?bL rfl rfl (by decide) rfl rfl rfl
            case bT => repeat' first | exact trivial | refine And.intro ?_ ?_ | (first | exact AvLe.of (incI (by omega)) | exact AvLe.of (incU (by omega)) | exact AvLe.of (decI (by omega)) | exact AvLe.refl _ | exact AvLe.sl (by first | rfl | (simp; done) | omega) (by first | exact Nat.le_refl _ | (simp; done) | omega) (by first | exact Nat.le_refl _ | (simp; done) | (simp; omega) | omega))
            case bL => repeat' first | exact trivial | refine And.intro ?_ ?_ | exact ⟨_, rfl, BlkLe.refl _⟩ | exact ⟨_, rfl, BlkLe.arr (by simp; done) (app1P rfl)⟩ | exact ⟨_, rfl, BlkLe.arr (by simp; done) (app1E rfl)⟩ | exact ⟨_, rfl, BlkLe.arr (by simp; done) (fun j _ => by simp [blt_zero]; done)⟩
          · have x1 : ¬ ((f.done == 1) = true) := by simp [hd1]
            have x3 : ¬ (decide ((r.length : Int) > 1) = true) := by have := ok.len; simp; omega
            have o5 := ok.n
            have o6 := ok.src
            by_cases hr : r.length = 1
            · obtain ⟨o1, o2, o3, o4⟩ := ok.one hr
              have x4 : ¬ (((r.length : Int) == 1) = false) := by simp [hr]
              have x5 : ¬ (decide (g.at_ < 0) = true) := by simp; omega
              have x6 : ¬ (decide (g.at_ ≥ (g.set.length : Int)) = true) := by simp; omega
              repeat' first
                | contradiction
                | (refine SemW.splitG rfl (fun c => ?_) (fun c => ?_) <;> (fail_if_success (cases c; done)))
                | (refine SemDr.splitG rfl (fun c => ?_) (fun c => ?_) <;> (fail_if_success (cases c; done)))
                | (refine SemW.goP tyT_ok mixed ?_; (conv => arg 8; whnf); refine HoldsP.mk rfl (by first | trivial | (simp; done) | (simp; omega) | omega) ?_)
                | (refine SemDr.goP tyT_ok ?_; (conv => arg 12; whnf); refine HoldsDP.mk rfl (by first | trivial | (simp; done) | (simp; omega) | omega) ?_)
                | (refine SemDr.end rfl ?_)
                | (refine SemW.cond rfl (fun c => ?_) (fun c => ?_))
                | (refine SemW.call0 rfl rfl func19 rfl rfl ?_; refine has_spec f.set d.resp.src _ _ (by omega) ⟨rfl, rfl, _, rfl, rfl, rfl, ?_⟩)
                | (refine SemDr.call0 rfl func19 rfl rfl ?_; refine has_spec f.set d.resp.src _ _ (by omega) ⟨rfl, rfl, _, rfl, rfl, rfl, ?_⟩)
                | (refine SemW.draw mixed rfl rfl ?_)
              all_goals try (exfalso; have cc : (!f.set.any fun x => x == d.resp.src) = true := by assumption
                             rw [o6 (eq_of_beq (by assumption)) hd1] at cc; cases cc; done)
              all_goals try (exfalso; clear hQ IH o6; simp_all; done)
              all_goals
                refine SemW.back (IH ⟨(i + 1, g, r), hil, ok.n.trans hfn, ok.set, ok.body⟩ (by show cs.length - (i + 1) < cs.length - i; omega)) ?bT ?bL rfl rfl (by decide) rfl rfl rfl
                case bT => repeat' first | exact trivial | refine And.intro ?_ ?_ | (first | exact AvLe.of (incI (by omega)) | exact AvLe.of (incU (by omega)) | exact AvLe.of (decI (by omega)) | exact AvLe.refl _ | exact AvLe.sl (by first | rfl | (simp; done) | omega) (by first | exact Nat.le_refl _ | (simp; done) | omega) (by first | exact Nat.le_refl _ | (simp; done) | (simp; omega) | omega))
                case bL => repeat' first | exact trivial | refine And.intro ?_ ?_ | exact ⟨_, rfl, BlkLe.refl _⟩ | exact ⟨_, rfl, BlkLe.arr (by simp; done) (app1P rfl)⟩ | exact ⟨_, rfl, BlkLe.arr (by simp; done) (app1E rfl)⟩ | exact ⟨_, rfl, BlkLe.arr (by simp; done) (fun j _ => by simp [blt_zero]; done)⟩
            · have x4 : ¬ (((r.length : Int) == 1) = true) := by simp; omega
              repeat' first
                | contradiction
                | (refine SemW.splitG rfl (fun c => ?_) (fun c => ?_) <;> (fail_if_success (cases c; done)))
                | (refine SemDr.splitG rfl (fun c => ?_) (fun c => ?_) <;> (fail_if_success (cases c; done)))
                | (refine SemW.goP tyT_ok mixed ?_; (conv => arg 8; whnf); refine HoldsP.mk rfl (by first | trivial | (simp; done) | (simp; omega) | omega) ?_)
                | (refine SemDr.goP tyT_ok ?_; (conv => arg 12; whnf); refine HoldsDP.mk rfl (by first | trivial | (simp; done) | (simp; omega) | omega) ?_)
                | (refine SemDr.end rfl ?_)
                | (refine SemW.cond rfl (fun c => ?_) (fun c => ?_))
                | (refine SemW.call0 rfl rfl func19 rfl rfl ?_; refine has_spec f.set d.resp.src _ _ (by omega) ⟨rfl, rfl, _, rfl, rfl, rfl, ?_⟩)
                | (refine SemDr.call0 rfl func19 rfl rfl ?_; refine has_spec f.set d.resp.src _ _ (by omega) ⟨rfl, rfl, _, rfl, rfl, rfl, ?_⟩)
                | (refine SemW.draw mixed rfl rfl ?_)
              all_goals try (exfalso; have cc : (!f.set.any fun x => x == d.resp.src) = true := by assumption
                             rw [o6 (eq_of_beq (by assumption)) hd1] at cc; cases cc; done)
              all_goals try (exfalso; clear hQ IH o6; simp_all; done)
              all_goals
                refine SemW.back (IH ⟨(i + 1, g, r), hil, ok.n.trans hfn, ok.set, ok.body⟩ (by show cs.length - (i + 1) < cs.length - i; omega)) ?bT ?bL rfl rfl (by decide) rfl rfl rfl
                case bT => repeat' first | exact trivial | refine And.intro ?_ ?_ | (first | exact AvLe.of (incI (by omega)) | exact AvLe.of (incU (by omega)) | exact AvLe.of (decI (by omega)) | exact AvLe.refl _ | exact AvLe.sl (by first | rfl | (simp; done) | omega) (by first | exact Nat.le_refl _ | (simp; done) | omega) (by first | exact Nat.le_refl _ | (simp; done) | (simp; omega) | omega))
                case bL => repeat' first | exact trivial | refine And.intro ?_ ?_ | exact ⟨_, rfl, BlkLe.refl _⟩ | exact ⟨_, rfl, BlkLe.arr (by simp; done) (app1P rfl)⟩ | exact ⟨_, rfl, BlkLe.arr (by simp; done) (app1E rfl)⟩ | exact ⟨_, rfl, BlkLe.arr (by simp; done) (fun j _ => by simp [blt_zero]; done)⟩
        · refine SemW.go tyT_ok mixed ?_
          conv => arg 7; whnf
          refine Holds.mk (by first | (simp; done) | (simp; omega) | omega) ?_
          refine SemW.call0 rfl rfl func16 rfl rfl ?_
          refine rtake_spec f d.now d.resp _ _ hfs hfb hdi.1 (fun x hx => ?_)
          obtain ⟨g, r⟩ := x
          have ok : StepOk f g r d.resp.src := by
            have := takeF_ok (t := d.now) (r := d.resp) hfs hfb hdi.1
            rw [← hx] at this
            exact this
          clear hx
          refine ⟨rfl, rfl, _, rfl, rfl, rfl, ?_⟩
          refine SemW.go tyT_ok mixed ?_
          conv => arg 7; whnf
          refine Holds.mk (by first | (simp; done) | (simp; omega) | omega) ?_
          refine SemW.tellB [(1, .obj (cellsFe g)), (3, .obj (cellsFe f))] ⟨⟨_, rfl, by rw [putCells_full (by rfl)]; exact BlkLe.refl _⟩, ⟨_, rfl, by rw [putCells_full (by rfl)]; exact BlkLe.refl _⟩, trivial⟩ ?_
          refine SemW.dd ?_
          conv => arg 9; whnf
          refine SemW.gc ?_
          conv => arg 7; whnf
          refine Holds.mk trivial ?_
          clear hdi
          by_cases hd1 : f.done = 1
          · obtain ⟨e1, e2⟩ := ok.done hd1
            clear ok
            subst e2
            subst e1
            have x1 : ¬ ((g.done == 1) = false) := by simp [hd1]
            have x2 : ¬ ((g.done == 0) = true) := by simp [hd1]
            repeat' first
              | contradiction
              | (refine SemW.splitG rfl (fun c => ?_) (fun c => ?_) <;> (fail_if_success (cases c; done)))
              | (refine SemDr.splitG rfl (fun c => ?_) (fun c => ?_) <;> (fail_if_success (cases c; done)))
              | (refine SemW.goP tyT_ok mixed ?_; (conv => arg 8; whnf); refine HoldsP.mk rfl (by first | trivial | (simp; done) | (simp; omega) | omega) ?_)
              | (refine SemDr.goP tyT_ok ?_; (conv => arg 12; whnf); refine HoldsDP.mk rfl (by first | trivial | (simp; done) | (simp; omega) | omega) ?_)
              | (refine SemDr.end rfl ?_)
              | (refine SemW.cond rfl (fun c => ?_) (fun c => ?_))
              | (refine SemW.call0 rfl rfl func18 rfl rfl ?_; refine same17_spec _ _ _ (by assumption) ⟨rfl, rfl, _, rfl, rfl, rfl, ?_⟩)
              | (refine SemDr.call0 rfl func18 rfl rfl ?_; refine same17_spec _ _ _ (by assumption) ⟨rfl, rfl, _, rfl, rfl, rfl, ?_⟩)
              | (refine SemW.draw mixed rfl rfl ?_)
            refine SemW.back (IH ⟨(i + 1, g, []), hil, hfn, hfs, hfb⟩ (by show cs.length - (i + 1) < cs.length - i; omega)) ?bT ?bL rfl rfl (by decide) rfl rfl rfl
            case bT => repeat' first | exact trivial | refine And.intro ?_ ?_ | (first | exact AvLe.of (incI (by omega)) | exact AvLe.of (incU (by omega)) | exact AvLe.of (decI (by omega)) | exact AvLe.refl _ | exact AvLe.sl (by first | rfl | (simp; done) | omega) (by first | exact Nat.le_refl _ | (simp; done) | omega) (by first | exact Nat.le_refl _ | (simp; done) | (simp; omega) | omega))
            case bL => repeat' first | exact trivial | refine And.intro ?_ ?_ | exact ⟨_, rfl, BlkLe.refl _⟩ | exact ⟨_, rfl, BlkLe.arr (by simp; done) (app1P rfl)⟩ | exact ⟨_, rfl, BlkLe.arr (by simp; done) (app1E rfl)⟩ | exact ⟨_, rfl, BlkLe.arr (by simp; done) (fun j _ => by simp [blt_zero]; done)⟩
          · have x1 : ¬ ((f.done == 1) = true) := by simp [hd1]
            have x3 : ¬ (decide ((r.length : Int) > 1) = true) := by have := ok.len; simp; omega
            have o5 := ok.n
            have o6 := ok.src
            by_cases hr : r.length = 1
            · obtain ⟨o1, o2, o3, o4⟩ := ok.one hr
              have x4 : ¬ (((r.length : Int) == 1) = false) := by simp [hr]
              have x5 : ¬ (decide (g.at_ < 0) = true) := by simp; omega
              have x6 : ¬ (decide (g.at_ ≥ (g.set.length : Int)) = true) := by simp; omega
              repeat' first
                | contradiction
                | (refine SemW.splitG rfl (fun c => ?_) (fun c => ?_) <;> (fail_if_success (cases c; done)))
                | (refine SemDr.splitG rfl (fun c => ?_) (fun c => ?_) <;> (fail_if_success (cases c; done)))
                | (refine SemW.goP tyT_ok mixed ?_; (conv => arg 8; whnf); refine HoldsP.mk rfl (by first | trivial | (simp; done) | (simp; omega) | omega) ?_)
                | (refine SemDr.goP tyT_ok ?_; (conv => arg 12; whnf); refine HoldsDP.mk rfl (by first | trivial | (simp; done) | (simp; omega) | omega) ?_)
                | (refine SemDr.end rfl ?_)
                | (refine SemW.cond rfl (fun c => ?_) (fun c => ?_))
                | (refine SemW.call0 rfl rfl func19 rfl rfl ?_; refine has_spec f.set d.resp.src _ _ (by omega) ⟨rfl, rfl, _, rfl, rfl, rfl, ?_⟩)
                | (refine SemDr.call0 rfl func19 rfl rfl ?_; refine has_spec f.set d.resp.src _ _ (by omega) ⟨rfl, rfl, _, rfl, rfl, rfl, ?_⟩)
                | (refine SemW.draw mixed rfl rfl ?_)
              all_goals try (exfalso; have cc : (!f.set.any fun x => x == d.resp.src) = true := by assumption
                             rw [o6 (eq_of_beq (by assumption)) hd1] at cc; cases cc; done)
              all_goals try (exfalso; clear hQ IH o6; simp_all; done)
              all_goals
                refine SemW.back (IH ⟨(i + 1, g, r), hil, ok.n.trans hfn, ok.set, ok.body⟩ (by show cs.length - (i + 1) < cs.length - i; omega)) ?bT ?bL rfl rfl (by decide) rfl rfl rfl
                case bT => repeat' first | exact trivial | refine And.intro ?_ ?_ | (first | exact AvLe.of (incI (by omega)) | exact AvLe.of (incU (by omega)) | exact AvLe.of (decI (by omega)) | exact AvLe.refl _ | exact AvLe.sl (by first | rfl | (simp; done) | omega) (by first | exact Nat.le_refl _ | (simp; done) | omega) (by first | exact Nat.le_refl _ | (simp; done) | (simp; omega) | omega))
                case bL => repeat' first | exact trivial | refine And.intro ?_ ?_ | exact ⟨_, rfl, BlkLe.refl _⟩ | exact ⟨_, rfl, BlkLe.arr (by simp; done) (app1P rfl)⟩ | exact ⟨_, rfl, BlkLe.arr (by simp; done) (app1E rfl)⟩ | exact ⟨_, rfl, BlkLe.arr (by simp; done) (fun j _ => by simp [blt_zero]; done)⟩
            · have x4 : ¬ (((r.length : Int) == 1) = true) := by simp; omega
              repeat' first
                | contradiction
                | (refine SemW.splitG rfl (fun c => ?_) (fun c => ?_) <;> (fail_if_success (cases c; done)))
                | (refine SemDr.splitG rfl (fun c => ?_) (fun c => ?_) <;> (fail_if_success (cases c; done)))
                | (refine SemW.goP tyT_ok mixed ?_; (conv => arg 8; whnf); refine HoldsP.mk rfl (by first | trivial | (simp; done) | (simp; omega) | omega) ?_)
                | (refine SemDr.goP tyT_ok ?_; (conv => arg 12; whnf); refine HoldsDP.mk rfl (by first | trivial | (simp; done) | (simp; omega) | omega) ?_)
                | (refine SemDr.end rfl ?_)
                | (refine SemW.cond rfl (fun c => ?_) (fun c => ?_))
                | (refine SemW.call0 rfl rfl func19 rfl rfl ?_; refine has_spec f.set d.resp.src _ _ (by omega) ⟨rfl, rfl, _, rfl, rfl, rfl, ?_⟩)
                | (refine SemDr.call0 rfl func19 rfl rfl ?_; refine has_spec f.set d.resp.src _ _ (by omega) ⟨rfl, rfl, _, rfl, rfl, rfl, ?_⟩)
                | (refine SemW.draw mixed rfl rfl ?_)
              all_goals try (exfalso; have cc : (!f.set.any fun x => x == d.resp.src) = true := by assumption
                             rw [o6 (eq_of_beq (by assumption)) hd1] at cc; cases cc; done)
              all_goals try (exfalso; clear hQ IH o6; simp_all; done)
              all_goals
                refine SemW.back (IH ⟨(i + 1, g, r), hil, ok.n.trans hfn, ok.set, ok.body⟩ (by show cs.length - (i + 1) < cs.length - i; omega)) ?bT ?bL rfl rfl (by decide) rfl rfl rfl
                case bT => repeat' first | exact trivial | refine And.intro ?_ ?_ | (first | exact AvLe.of (incI (by omega)) | exact AvLe.of (incU (by omega)) | exact AvLe.of (decI (by omega)) | exact AvLe.refl _ | exact AvLe.sl (by first | rfl | (simp; done) | omega) (by first | exact Nat.le_refl _ | (simp; done) | omega) (by first | exact Nat.le_refl _ | (simp; done) | (simp; omega) | omega))
                case bL => repeat' first | exact trivial | refine And.intro ?_ ?_ | exact ⟨_, rfl, BlkLe.refl _⟩ | exact ⟨_, rfl, BlkLe.arr (by simp; done) (app1P rfl)⟩ | exact ⟨_, rfl, BlkLe.arr (by simp; done) (app1E rfl)⟩ | exact ⟨_, rfl, BlkLe.arr (by simp; done) (fun j _ => by simp [blt_zero]; done)⟩
  · obtain rfl : i = cs.length := by simp at c1; omega
    repeat' first
      | contradiction
      | (refine SemW.splitG rfl (fun c => ?_) (fun c => ?_) <;> (fail_if_success (cases c; done)))
      | (refine SemDr.splitG rfl (fun c => ?_) (fun c => ?_) <;> (fail_if_success (cases c; done)))
      | (refine SemW.goP tyT_ok mixed ?_; (conv => arg 8; whnf); refine HoldsP.mk rfl (by first | trivial | (simp; done) | (simp; omega) | omega) ?_)
      | (refine SemDr.goP tyT_ok ?_; (conv => arg 12; whnf); refine HoldsDP.mk rfl (by first | trivial | (simp; done) | (simp; omega) | omega) ?_)
      | (refine SemDr.end rfl ?_)
      | (refine SemW.cond rfl (fun c => ?_) (fun c => ?_))
      | (refine SemW.call0 rfl rfl func11 rfl rfl ?_; refine awake17_spec _ _ ⟨rfl, rfl, _, rfl, rfl, rfl, ?_⟩)
      | (refine SemDr.call0 rfl func11 rfl rfl ?_; refine awake17_spec _ _ ⟨rfl, rfl, _, rfl, rfl, rfl, ?_⟩)
      | (refine SemW.draw mixed rfl rfl ?_)
    (refine SemW.ret0 tyT_ok func4 rfl rfl rfl ?_; refine cast (congrArg (fun r => Q r h []) ?_) hQ; clear hQ; rfl)
end Go.Proofs.Try
set_option linter.unusedVariables false
set_option linter.unusedSimpArgs false
open Go Go.AM
namespace Go.Proofs.Try
set_option maxRecDepth 100000
set_option maxHeartbeats 4000000
theorem longF_false {l : List Fr} (h : longF l = false) : l.length ≤ 30 ∧ ∀ f ∈ l, f.books.length ≤ 30 := by
  unfold longF at h
  simp only [Bool.or_eq_false_iff, decide_eq_false_iff_not] at h
  refine ⟨by omega, fun f hf => ?_⟩
  obtain ⟨i, hi, rfl⟩ := List.getElem_of_mem hf
  have := List.any_eq_false.1 h.2 i (List.mem_range.2 hi)
  simp [hi] at this
  omega
theorem heavy17_false {l : Le} {cs : List Ca} (h : heavy17 l cs = false) : l.frags.length ≤ 30 ∧ (∀ f ∈ l.frags, f.books.length ≤ 30) ∧ cs.length ≤ 200 ∧ ∀ c ∈ cs, c.resp.body.length ≤ 5000 ∧ c.led.frags.length ≤ 30 ∧ ∀ f ∈ c.led.frags, f.books.length ≤ 30 := by
  unfold heavy17 at h
  simp only [Bool.or_eq_false_iff, decide_eq_false_iff_not] at h
  obtain ⟨⟨h1, h2⟩, h3⟩ := h
  obtain ⟨a, b⟩ := longF_false h2
  refine ⟨a, b, by omega, fun c hc => ?_⟩
  obtain ⟨i, hi, rfl⟩ := List.getElem_of_mem hc
  have z := List.any_eq_false.1 h3 i (List.mem_range.2 hi)
  have e : cs.getD i C0 = cs[i] := by simp [hi]
  rw [e] at z
  have z' : hvCa cs[i] = false := by cases hb : hvCa cs[i] with
    | false => rfl
    | true => exact absurd hb z
  unfold hvCa at z'
  simp only [Bool.or_eq_false_iff, decide_eq_false_iff_not] at z'
  obtain ⟨y1, y2⟩ := longF_false z'.2
  exact ⟨by omega, y1, y2⟩
theorem heavyW_spec (l : Le) (cs : List Ca) (h : Hp) (Q : AV → Hp → List Blk → Prop) (hl : l.frags.length < 2^62) (hc : cs.length < 2^62) (hb : ∀ c ∈ cs, c.led.frags.length < 2^62) (hQ : Q (abool (heavy17 l cs)) h []) : SemC Try.prog 10 [encL l, sCa cs] h Q := by
  refine SemC.enter func10 rfl (Nat.le_of_ble_eq_true rfl) fresh fresh_nodup ?_
  refine SemW.entT rfl ?_
  unfold heavy17 at hQ
  repeat' first
    | contradiction
    | (refine SemW.splitG rfl (fun c => ?_) (fun c => ?_) <;> (fail_if_success (cases c; done)))
    | (refine SemDr.splitG rfl (fun c => ?_) (fun c => ?_) <;> (fail_if_success (cases c; done)))
    | (refine SemW.goP tyT_ok mixed ?_; (conv => arg 8; whnf); refine HoldsP.mk rfl (by first | trivial | (simp; done) | (simp; omega) | omega) ?_)
    | (refine SemDr.goP tyT_ok ?_; (conv => arg 12; whnf); refine HoldsDP.mk rfl (by first | trivial | (simp; done) | (simp; omega) | omega) ?_)
    | (refine SemDr.end rfl ?_)
    | (refine SemW.cond rfl (fun c => ?_) (fun c => ?_))
    | (refine SemW.call0 rfl rfl func38 rfl rfl ?_; refine longFrags_spec l.frags _ _ (by omega) ⟨rfl, rfl, _, rfl, rfl, rfl, ?_⟩)
    | (refine SemDr.call0 rfl func38 rfl rfl ?_; refine longFrags_spec l.frags _ _ (by omega) ⟨rfl, rfl, _, rfl, rfl, rfl, ?_⟩)
    | (refine SemW.draw mixed rfl rfl ?_)
  all_goals try
    (refine SemW.ret0 tyT_ok func10 rfl rfl rfl ?_; refine cast (congrArg (fun r => Q r h []) ?_) hQ; clear hQ; (simp_all [AV.ren]; done))
  have hA : (decide ((cs.length : Int) > 200) || longF l.frags) = false := by clear hQ; simp_all
  rw [hA, Bool.false_or] at hQ
  refine SemW.loopG (X := {i : Nat // i ≤ cs.length ∧ ((List.range i).any fun i => hvCa (cs.getD i C0)) = false}) (fun x => [(5, aint x.1)]) (fun x => []) (fun x => cs.length - x.1) (⟨0, Nat.zero_le _, rfl⟩) ?_
  conv => arg 15; whnf
  refine LoopC.mk ?sT ?sL (by decide) rfl rfl rfl ?_
  case sT => repeat' first | exact trivial | refine And.intro ?_ ?_ | (first | exact AvLe.of (incI (by omega)) | exact AvLe.of (incU (by omega)) | exact AvLe.of (decI (by omega)) | exact AvLe.refl _ | exact AvLe.sl (by first | rfl | (simp; done) | omega) (by first | exact Nat.le_refl _ | (simp; done) | omega) (by first | exact Nat.le_refl _ | (simp; done) | (simp; omega) | omega))
  case sL => repeat' first | exact trivial | refine And.intro ?_ ?_ | exact ⟨_, rfl, BlkLe.refl _⟩ | exact ⟨_, rfl, BlkLe.arr (by simp; done) (app1P rfl)⟩ | exact ⟨_, rfl, BlkLe.arr (by simp; done) (app1E rfl)⟩ | exact ⟨_, rfl, BlkLe.arr (by simp; done) (fun j _ => by simp [blt_zero]; done)⟩
  rintro ⟨i, hi, ha⟩ IH
  dsimp only at hi ha IH ⊢
  refine SemW.go tyT_ok mixed ?_
  conv => arg 7; whnf
  refine Holds.mk (by first | (simp; done) | (simp; omega) | omega) ?_
  refine SemW.cond rfl (fun c1 => ?_) (fun c1 => ?_)
  · have hil : i < cs.length := by simpa using c1
    have hbi := hb (cs.getD i C0) (by simp [hil])
    repeat' first
      | contradiction
      | (refine SemW.splitG rfl (fun c => ?_) (fun c => ?_) <;> (fail_if_success (cases c; done)))
      | (refine SemDr.splitG rfl (fun c => ?_) (fun c => ?_) <;> (fail_if_success (cases c; done)))
      | (refine SemW.goP tyT_ok mixed ?_; (conv => arg 8; whnf); refine HoldsP.mk rfl (by first | trivial | (simp; done) | (simp; omega) | omega) ?_)
      | (refine SemDr.goP tyT_ok ?_; (conv => arg 12; whnf); refine HoldsDP.mk rfl (by first | trivial | (simp; done) | (simp; omega) | omega) ?_)
      | (refine SemDr.end rfl ?_)
      | (refine SemW.cond rfl (fun c => ?_) (fun c => ?_))
      | (refine SemW.call0 rfl rfl func38 rfl rfl ?_; refine longFrags_spec (cs.getD i C0).led.frags _ _ (by omega) ⟨rfl, rfl, _, rfl, rfl, rfl, ?_⟩)
      | (refine SemDr.call0 rfl func38 rfl rfl ?_; refine longFrags_spec (cs.getD i C0).led.frags _ _ (by omega) ⟨rfl, rfl, _, rfl, rfl, rfl, ?_⟩)
      | (refine SemW.draw mixed rfl rfl ?_)
    all_goals try
      (refine SemW.ret0 tyT_ok func10 rfl rfl rfl ?_; refine cast (congrArg (fun r => Q r h []) ?_) hQ; clear hQ; (rw [any_true hil (show hvCa (cs.getD i C0) = true by simp_all [hvCa])]; rfl))
    have hf : hvCa (cs.getD i C0) = false := by clear hQ IH; simp_all [hvCa]
    refine SemW.back (IH ⟨i + 1, hil, any_succ ha hf⟩ (by show cs.length - (i + 1) < cs.length - i; omega)) ?bT ?bL rfl rfl (by decide) rfl rfl rfl
    case bT => repeat' first | exact trivial | refine And.intro ?_ ?_ | (first | exact AvLe.of (incI (by omega)) | exact AvLe.of (incU (by omega)) | exact AvLe.of (decI (by omega)) | exact AvLe.refl _ | exact AvLe.sl (by first | rfl | (simp; done) | omega) (by first | exact Nat.le_refl _ | (simp; done) | omega) (by first | exact Nat.le_refl _ | (simp; done) | (simp; omega) | omega))
    case bL => repeat' first | exact trivial | refine And.intro ?_ ?_ | exact ⟨_, rfl, BlkLe.refl _⟩ | exact ⟨_, rfl, BlkLe.arr (by simp; done) (app1P rfl)⟩ | exact ⟨_, rfl, BlkLe.arr (by simp; done) (app1E rfl)⟩ | exact ⟨_, rfl, BlkLe.arr (by simp; done) (fun j _ => by simp [blt_zero]; done)⟩
  · obtain rfl : i = cs.length := by simp at c1; omega
    rw [ha] at hQ
    refine SemW.go tyT_ok mixed ?_
    conv => arg 7; whnf
    refine Holds.mk (by first | (simp; done) | (simp; omega) | omega) ?_
    (refine SemW.ret0 tyT_ok func10 rfl rfl rfl ?_; refine cast (congrArg (fun r => Q r h []) ?_) hQ; clear hQ; rfl)
theorem staysW_spec (l : Le) (n tag now : Int) (cs : List Ca) (h : Hp) (Q : AV → Hp → List Blk → Prop) (hl : l.frags.length < 2^62) (hc : cs.length < 2^62) (hlb : ∀ f ∈ l.frags, 0 ≤ f.first) (hn : n ≤ 18446744073709551615)
    (hcs : ∀ c ∈ cs, c.led.frags.length < 2^62 ∧ ∀ f ∈ c.led.frags, 0 ≤ f.first) (hQ : Q (abool true) h []) : SemC Try.prog 4 [encL l, au n, au tag, au now, sCa cs] h Q := by
  cases hb : heavy17 l cs with
  | false =>
    obtain ⟨b1, b2, b3, b4⟩ := heavy17_false hb
    exact stays_spec l n tag now cs h Q (by omega) (by omega) (fun f hf => ⟨by have := b2 f hf; omega, hlb f hf⟩) hn
      (fun c hc => ⟨by have := (b4 c hc).1; omega, by have := (b4 c hc).2.1; omega, fun f hf => ⟨by have := (b4 c hc).2.2 f hf; omega, (hcs c hc).2 f hf⟩⟩) hQ
  | true =>
    have hx : ¬ (heavy17 l cs = false) := by rw [hb]; simp
    refine SemC.enter func4 rfl (Nat.le_of_ble_eq_true rfl) fresh fresh_nodup ?_
    refine SemW.entT rfl ?_
    repeat' first
      | contradiction
      | (refine SemW.splitG rfl (fun c => ?_) (fun c => ?_) <;> (fail_if_success (cases c; done)))
      | (refine SemDr.splitG rfl (fun c => ?_) (fun c => ?_) <;> (fail_if_success (cases c; done)))
      | (refine SemW.goP tyT_ok mixed ?_; (conv => arg 8; whnf); refine HoldsP.mk rfl (by first | trivial | (simp; done) | (simp; omega) | omega) ?_)
      | (refine SemDr.goP tyT_ok ?_; (conv => arg 12; whnf); refine HoldsDP.mk rfl (by first | trivial | (simp; done) | (simp; omega) | omega) ?_)
      | (refine SemDr.end rfl ?_)
      | (refine SemW.cond rfl (fun c => ?_) (fun c => ?_))
      | (refine SemW.call0 rfl rfl func10 rfl rfl ?_; refine heavyW_spec l cs _ _ hl hc (fun c hm => (hcs c hm).1) ⟨rfl, rfl, _, rfl, rfl, rfl, ?_⟩)
      | (refine SemDr.call0 rfl func10 rfl rfl ?_; refine heavyW_spec l cs _ _ hl hc (fun c hm => (hcs c hm).1) ⟨rfl, rfl, _, rfl, rfl, rfl, ?_⟩)
      | (refine SemW.call0 rfl rfl func11 rfl rfl ?_; refine awake17_spec _ _ ⟨rfl, rfl, _, rfl, rfl, rfl, ?_⟩)
      | (refine SemDr.call0 rfl func11 rfl rfl ?_; refine awake17_spec _ _ ⟨rfl, rfl, _, rfl, rfl, rfl, ?_⟩)
      | (refine SemW.draw mixed rfl rfl ?_)
    (refine SemW.ret0 tyT_ok func4 rfl rfl rfl ?_; refine cast (congrArg (fun r => Q r h []) ?_) hQ; clear hQ; rfl)
end Go.Proofs.Try
set_option linter.unusedVariables false
set_option linter.unusedSimpArgs false
open Go Go.AM
namespace Go.Proofs.Try
set_option maxRecDepth 100000
def cellsP (p : Pl) : List AV := [.val (.int .i64 p.node), .val (.int .u64 p.serial)]
def okI (x : Int) : Prop := -9223372036854775808 ≤ x ∧ x ≤ 9223372036854775807
def okU (x : Int) : Prop := 0 ≤ x ∧ x < 18446744073709551616
def okP (p : Pl) : Prop := okI p.node ∧ okU p.serial
theorem wf_i64 {x : Int} (h : (Lit.int .i64 x).wf = true) : okI x := by
  simp [Lit.wf, IntKind.min, IntKind.max, IntKind.signed, IntKind.bits] at h
  unfold okI
  omega
theorem wf_u64 {x : Int} (h : (Lit.int .u64 x).wf = true) : okU x := by
  simp [Lit.wf, IntKind.min, IntKind.max, IntKind.signed, IntKind.bits] at h
  unfold okU
  omega
theorem cellsOfP : 2 = Try.prog.cellsOf 38 := by kernel_rfl
theorem cellsOfF : 2 = Try.prog.cellsOf 106 := by kernel_rfl
theorem cellsOfL : 6 = Try.prog.cellsOf 25 := by kernel_rfl
theorem cellsOfRe : 9 = Try.prog.cellsOf 40 := by kernel_rfl
theorem cellsOfCa : 18 = Try.prog.cellsOf 42 := by kernel_rfl
theorem opU : OpA Try.prog 22 (fun n : Int => [.val (.int .u64 n)]) okU := (opA_int Try.underlying22 (by kernel_rfl)).mono fun _ h => wf_u64 h
theorem opI : OpA Try.prog 3 (fun n : Int => [.val (.int .i64 n)]) okI := (opA_int Try.underlying3 (by kernel_rfl)).mono fun _ h => wf_i64 h
theorem opP : OpA Try.prog 38 cellsP okP :=
  (opA_struct Try.underlying38 (n := 2) cellsOfP.symm (opF_cons (n1 := 1) (n2 := 1) rfl opI (by kernel_rfl) (opF_one rfl opU (by kernel_rfl)) rfl)).iso
    (fun x => ⟨x.1, x.2⟩) (fun _ => rfl) (fun _ => cellsOfP) (fun _ h => h)
def okLP (l : List Pl) : Prop := l.length * 16 ≤ 140737488351232 ∧ ∀ p ∈ l, okP p
theorem opLP : OpA Try.prog 30 (fun l : List Pl => [sP l]) okLP :=
  (opA_slice (ag := true) Try.underlying30 (by kernel_rfl) opP (Nat.le_of_ble_eq_true (by kernel_rfl)) encP ⟨0, 0⟩ (fun _ => ⟨rfl, rfl⟩)).mono fun _ h => h
def cellsF (f : Fr) : List AV := [.val (.int .u64 f.first), sP f.books]
def okF (f : Fr) : Prop := okU f.first ∧ okLP f.books
theorem opF : OpA Try.prog 106 cellsF okF :=
  (opA_struct Try.underlying106 (n := 2) cellsOfF.symm (opF_cons (n1 := 1) (n2 := 1) rfl opU (by kernel_rfl) (opF_one rfl opLP (by kernel_rfl)) rfl)).iso
    (fun x => ⟨x.1, x.2⟩) (fun _ => rfl) (fun _ => cellsOfF) (fun _ h => h)
def okLF (l : List Fr) : Prop := l.length * 32 ≤ 140737488351232 ∧ ∀ f ∈ l, okF f
theorem opLF : OpA Try.prog 23 (fun l : List Fr => [sF l]) okLF :=
  (opA_slice (ag := true) Try.underlying23 (by kernel_rfl) opF (Nat.le_of_ble_eq_true (by kernel_rfl)) encF ⟨0, []⟩ (fun _ => ⟨rfl, rfl⟩)).mono fun _ h => h
def okLB (l : List Int) : Prop := l.length * 1 ≤ 140737488351232 ∧ ∀ x ∈ l, True
theorem opLB : OpA Try.prog 27 (fun l : List Int => [sB l]) okLB :=
  (opA_slice (ag := false) Try.underlying27 (by kernel_rfl) (opA_int Try.underlying5 (by kernel_rfl)) (Nat.le_of_ble_eq_true (by kernel_rfl)) ab 0 (fun _ => ⟨rfl, rfl⟩)).mono fun _ h => ⟨h.1, fun _ _ => trivial⟩
def cellsL (l : Le) : List AV := [au l.id, aint l.w, aint l.a, sF l.frags, aint l.closed, au l.last]
def okL (l : Le) : Prop := okU l.id ∧ okI l.w ∧ okI l.a ∧ okLF l.frags ∧ okI l.closed ∧ okU l.last
theorem opL : OpA Try.prog 25 cellsL okL :=
  (opA_struct Try.underlying25 (n := 6) cellsOfL.symm (opF_cons (n1 := 1) (n2 := 5) rfl opU (by kernel_rfl) (opF_cons (n1 := 1) (n2 := 4) rfl opI (by kernel_rfl) (opF_cons (n1 := 1) (n2 := 3) rfl opI (by kernel_rfl) (opF_cons (n1 := 1) (n2 := 2) rfl opLF (by kernel_rfl)
    (opF_cons (n1 := 1) (n2 := 1) rfl opI (by kernel_rfl) (opF_one rfl opU (by kernel_rfl)) rfl) rfl) rfl) rfl) rfl)).iso
    (fun x => ⟨x.1, x.2.1, x.2.2.1, x.2.2.2.1, x.2.2.2.2.1, x.2.2.2.2.2⟩) (fun _ => rfl) (fun _ => cellsOfL) (fun _ h => h)
def cellsRe (r : Re) : List AV := [aint r.src.node, au r.src.serial, aint r.kind, aint r.code, au r.ledger, au r.n, au r.epoch, au r.sure, sB r.body]
def okRe (r : Re) : Prop := okP r.src ∧ okI r.kind ∧ okI r.code ∧ okU r.ledger ∧ okU r.n ∧ okU r.epoch ∧ okU r.sure ∧ okLB r.body
theorem opRe : OpA Try.prog 40 cellsRe okRe :=
  (opA_struct Try.underlying40 (n := 9) cellsOfRe.symm (opF_cons (n1 := 2) (n2 := 7) rfl opP (by kernel_rfl) (opF_cons (n1 := 1) (n2 := 6) rfl opI (by kernel_rfl) (opF_cons (n1 := 1) (n2 := 5) rfl opI (by kernel_rfl) (opF_cons (n1 := 1) (n2 := 4) rfl opU (by kernel_rfl)
    (opF_cons (n1 := 1) (n2 := 3) rfl opU (by kernel_rfl) (opF_cons (n1 := 1) (n2 := 2) rfl opU (by kernel_rfl) (opF_cons (n1 := 1) (n2 := 1) rfl opU (by kernel_rfl) (opF_one rfl opLB (by kernel_rfl)) rfl) rfl) rfl) rfl) rfl) rfl) rfl)).iso
    (fun x => ⟨x.1, x.2.1, x.2.2.1, x.2.2.2.1, x.2.2.2.2.1, x.2.2.2.2.2.1, x.2.2.2.2.2.2.1, x.2.2.2.2.2.2.2⟩) (fun _ => rfl) (fun _ => cellsOfRe) (fun _ h => h)
def cellsCa (c : Ca) : List AV := (encCa c).cells
def okCa (c : Ca) : Prop := okI c.what ∧ okI c.own ∧ okU c.now ∧ okRe c.resp ∧ okL c.led
theorem opCa : OpA Try.prog 42 cellsCa okCa :=
  (opA_struct Try.underlying42 (n := 18) cellsOfCa.symm (opF_cons (n1 := 1) (n2 := 17) rfl opI (by kernel_rfl) (opF_cons (n1 := 1) (n2 := 16) rfl opI (by kernel_rfl) (opF_cons (n1 := 1) (n2 := 15) rfl opU (by kernel_rfl)
    (opF_cons (n1 := 9) (n2 := 6) rfl opRe (by kernel_rfl) (opF_one rfl opL (by kernel_rfl)) rfl) rfl) rfl) rfl)).iso
    (fun x => ⟨x.1, x.2.1, x.2.2.1, x.2.2.2.1, x.2.2.2.2⟩) (fun _ => rfl) (fun _ => cellsOfCa) (fun _ h => h)
def okLCa (l : List Ca) : Prop := l.length * 176 ≤ 140737488351232 ∧ ∀ c ∈ l, okCa c
theorem opLCa : OpA Try.prog 26 (fun l : List Ca => [sCa l]) okLCa :=
  (opA_slice (ag := true) Try.underlying26 (by kernel_rfl) opCa (Nat.le_of_ble_eq_true (by kernel_rfl)) encCa C0 (fun _ => ⟨rfl, rfl⟩)).mono fun _ h => h
end Go.Proofs.Try
