/- Part 7 of the proof of the row StripeRenews: written for this claim by the session and by a program of its own. -/
import Derived.Test.YtipjnfljkknmgaaCStripeRenewsp5
import Derived.Test.YtipjnfljkknmgaaCStripeRenewsp6
namespace Go.Proofs.Ytipjnfljkknmgaa.Q
open Go.RowKit Go.Proofs.YtipjnfljkknmgaaW.PrintWords Go.Proofs.YtipjnfljkknmgaaW.PrintLast Go.Proofs.YtipjnfljkknmgaaW.PrintMore
set_option linter.unusedVariables false
set_option linter.unusedSimpArgs false
theorem indexInt_ev (l : List Int) (a : Int) (hn : l.length ≤ 9223372036854775807) (d : Nat) : ∀ (k i : Nat), i + d = l.length → d < k → ∃ r, slices_Index_int_int.l0 k l a (l.length : Int) (i : Int) = some r ∧ decide (r ≥ 0) = (l.drop i).contains a := by
  induction d with
  | zero =>
    intro k i hi hk
    obtain ⟨k, rfl⟩ : ∃ m, k = m + 1 := ⟨k - 1, by omega⟩
    refine ⟨-1, ?_, ?_⟩
    · simp only [slices_Index_int_int.l0]; rw [if_neg (by omega)]
    · rw [List.drop_eq_nil_of_le (by omega)]; simp
  | succ d ih =>
    intro k i hi hk
    obtain ⟨k, rfl⟩ : ∃ m, k = m + 1 := ⟨k - 1, by omega⟩
    have hlt : i < l.length := by omega
    have hr : rd l (i : Int) = l[i] := by simp [rd, List.getD_eq_getElem?_getD, List.getElem?_eq_getElem hlt]
    simp only [slices_Index_int_int.l0]
    rw [if_pos (by omega), if_pos (by omega), if_pos (by omega), List.drop_eq_getElem_cons hlt, hr]
    by_cases e : a = l[i]
    · rw [if_pos e]
      exact ⟨i, rfl, by rw [List.contains_cons, e, beq_self_eq_true, Bool.true_or]; exact decide_eq_true (by omega)⟩
    · rw [if_neg e]
      have hw : wrap64 ((i : Int) + 1) = ((i + 1 : Nat) : Int) := by unfold wrap64; omega
      rw [hw]
      obtain ⟨r, h1, h2⟩ := ih k (i + 1) (by omega) (by omega)
      exact ⟨r, h1, by rw [h2, List.contains_cons, show (a == l[i]) = false from by simp [e], Bool.false_or]⟩
theorem containsInt_ev (l : List Int) (a : Int) (hn : l.length ≤ 9223372036854775807) : ∃ k, slices_Contains_int_int.f k l a = some (l.contains a) := by
  obtain ⟨r, h1, h2⟩ := indexInt_ev l a hn l.length (l.length + 1) 0 (by omega) (by omega)
  refine ⟨l.length + 1, ?_⟩
  unfold slices_Contains_int_int.f slices_Index_int_int.f
  rw [show (0 : Int) = ((0 : Nat) : Int) from rfl, h1]
  simpa using h2
def pickGo (e : Int) (no : List Int) : List S32 → List S32 → List S32
  | [], l => l
  | x :: r, l => pickGo e no r (if (l.length : Int) < e ∧ l.any (fun y => y.f0 == x.f0) = false ∧ no.contains x.f0 = false then l ++ [x] else l)
def stripe_Pick.f (l0 : List S32) (a1 a2 : Int) (l3 : List Int) : Option (List S32 × Int) :=
  if a2 < 1 ∨ a2 > a1 ∨ a1 > 5 then some ([], 1) else if ((pickGo a1 l3 l0 []).length : Int) < a2 then some ([], 3) else some (pickGo a1 l3 l0 [], 0)
set_option maxHeartbeats 2000000 in
set_option maxRecDepth 100000 in
theorem pick1_calls (y0 y1 x0 x1 : Int) (gx : Nat) (w : World) (hb : w.heap[gx]? = some (.cells #[.int .i64 x0, .int .u64 x1] 32 (0, 0))) :
    Calls Try.prog 41 #[.agg #[.int .i64 y0, .int .u64 y1], .pointer (some ⟨gx, 0, none⟩)] w fun e w' => e = .returned (.bool (y0 == x0)) ∧ Below w.heap.size w w' := by
  have HB := Aside0.mk (Below.refl w.heap.size w)
  have hc0 : w.cell? ⟨gx, 0, none⟩ = some (.int .i64 x0) := (blk_cell hb 0).trans rfl
  have hlt := blk_lt hb
  go_enter Try.func41, Try.ntmps41
  go_wp2
  go_ret
  exact ⟨rfl, (by repeat (first | (with_reducible first | exact HB.out | apply below_alloc | apply pw_below_drewN | apply below_drew1) | exact HB.out))⟩
set_option maxHeartbeats 8000000 in
set_option maxRecDepth 100000 in
theorem stripe_Pick.calls (A0 : Option Addr) (c0 : Nat) (l0 : List S32) (a1 a2 : Int) (A3 : Option Addr) (c3 : Nat) (l3 : List Int) (r1 : List S32) (r2 : Int) (w : World) (hr0 : Kd.C k32 w A0 l0.length l0) (hc0 : l0.length ≤ c0) (hr3 : Kd.C (Kd.int .i64) w A3 l3.length l3) (hc3 : l3.length ≤ c3) (h : stripe_Pick.f l0 a1 a2 l3 = some (r1, r2)) :
    Calls Try.prog 22 #[.slice A0 l0.length c0, .int .i64 a1, .int .i64 a2, .slice A3 l3.length c3] w fun e w' => ∃ v0_ : Value, e = .returned (.tuple #[v0_, .int .i64 r2]) ∧ Kd.R k32 32 w' w.heap.size (fun _ => True) v0_ r1 ∧ Below w.heap.size w w' := by
  have HB := Aside0.mk (Below.refl w.heap.size w)
  have HR0 := Aside0.mk hr0
  have HR3 := Aside0.mk hr3
  have HC3 := Aside0.mk hc3
  have hlen : l0.length ≤ 9223372036854775807 := hr0.2.1
  have HL3 := Aside0.mk hr3.2.1
  unfold stripe_Pick.f at h
  clear hr0 hr3 hc3 hc0
  by_cases h1 : a2 < 1
  · rw [if_pos (.inl h1)] at h
    simp only [Option.some.injEq, Prod.mk.injEq] at h
    obtain ⟨rfl, rfl⟩ := h
    have d1 : decide (a2 < 1) = true := decide_eq_true h1
    clear h1
    go_enter Try.func22, Try.ntmps22
    go_wp2
    go_ret2
    exact ⟨_, rfl, Kd.R_nil _ _ _ _ _, HB.out⟩
  · by_cases h2 : a2 > a1
    · rw [if_pos (.inr (.inl h2))] at h
      simp only [Option.some.injEq, Prod.mk.injEq] at h
      obtain ⟨rfl, rfl⟩ := h
      have d1 : decide (a2 < 1) = false := decide_eq_false h1
      have d2 : decide (a1 < a2) = true := decide_eq_true h2
      clear h1 h2
      go_enter Try.func22, Try.ntmps22
      go_wp2
      go_ret2
      exact ⟨_, rfl, Kd.R_nil _ _ _ _ _, HB.out⟩
    · by_cases h3 : a1 > 5
      · rw [if_pos (.inr (.inr h3))] at h
        simp only [Option.some.injEq, Prod.mk.injEq] at h
        obtain ⟨rfl, rfl⟩ := h
        have d1 : decide (a2 < 1) = false := decide_eq_false h1
        have d2 : decide (a1 < a2) = false := decide_eq_false h2
        have d3 : decide (5 < a1) = true := decide_eq_true h3
        clear h1 h2 h3
        go_enter Try.func22, Try.ntmps22
        go_wp2
        go_ret2
        exact ⟨_, rfl, Kd.R_nil _ _ _ _ _, HB.out⟩
      · rw [if_neg (by rintro (h | h | h) <;> contradiction)] at h
        have d1 : decide (a2 < 1) = false := decide_eq_false h1
        have d2 : decide (a1 < a2) = false := decide_eq_false h2
        have d3 : decide (5 < a1) = false := decide_eq_false h3
        generalize hr : pickGo a1 l3 l0 [] = r at h
        have Hr := Aside0.mk hr
        have H := Aside0.mk h
        clear hr h h1 h2
        go_enter Try.func22, Try.ntmps22
        go_wp2
        go_loopg [10, 27] l0.length (fun kq v10 v27 w' => ∃ (i : Nat) (l : List S32), v27 = .int .i64 i ∧ Aside0 (pickGo a1 l3 (l0.drop i) l = r) ∧ Aside0 (i + kq = l0.length) ∧ Aside0 (Kd.R k32 32 w' w.heap.size (fun _ => True) v10 l) ∧ Aside0 (Below w.heap.size w w'))
        case atStart => exact ⟨0, [], rfl, ⟨by simpa using Hr.out⟩, ⟨by omega⟩, ⟨Kd.R_nil _ _ _ _ _⟩, HB⟩
        case round =>
          clear Hr HB
          obtain ⟨i, l, rfl, HG, HI, HO0, HB⟩ := hrel
          obtain ⟨A, c, rfl, hlc, hC⟩ := Kd.R_reads HO0.out
          have HC := Aside0.mk hC
          have HLC := Aside0.mk hlc
          have HO := HO0
          clear HO0 hC hlc
          have hll : l.length ≤ 9223372036854775807 := HC.out.2.1
          by_cases hlt : i < l0.length
          · obtain ⟨ad, e1, h0, h1⟩ := at_T32 HR0.out (i : Int) (by omega) (by omega)
            cases e1
            generalize hy : rd_T32 l0 (i : Int) = y at h0 h1
            have HY := Aside0.mk hy
            clear hy
            replace h0 := (HB.out.cell (World.block_lt_of_cell? w _ h0)).trans h0
            replace h1 := (HB.out.cell (World.block_lt_of_cell? w _ h1)).trans h1
            simp only [Int.toNat_natCast] at h0 h1
            have HG2 : Aside0 (pickGo a1 l3 (l0.drop (i + 1)) (if (l.length : Int) < a1 ∧ l.any (fun z => z.f0 == y.f0) = false ∧ l3.contains y.f0 = false then l ++ [y] else l) = r) := by
              have := HG.out
              rw [drop_rdP l0 i hlt, HY.out, pickGo] at this
              exact ⟨this⟩
            clear HG
            obtain ⟨kk, hk⟩ := containsInt_ev l3 y.f0 HL3.out
            have HK := Aside0.mk hk
            clear hk
            generalize hs : l.any (fun z => z.f0 == y.f0) = b at HG2
            generalize hn : l3.contains y.f0 = n at HG2 HK
            have HS := Aside0.mk hs
            have HN := Aside0.mk hn
            clear hs hn
            by_cases g1 : (l.length : Int) < a1
            · have e4 : decide ((l.length : Int) < a1) = true := decide_eq_true g1
              have G1 := Aside0.mk g1
              have D3 := Aside0.mk (of_decide_eq_false d3)
              clear g1
              cases b with
              | true =>
                have HG : Aside0 (pickGo a1 l3 (l0.drop (i + 1)) l = r) := by have := HG2.out; rw [if_neg (by simp)] at this; exact ⟨this⟩
                clear HG2
                go_wp2_with (first | ((with_reducible refine gate_dst (N := 12) rfl ?_); (refine box_event ?hg (N := 12) ?hd (cs := #[.int .i64 0, .int .u64 0]) (t := 32) ?hr ?_; (case hd => rfl); (case hg => rfl); (case hr => first | (go_simp; done) | (go_simp; rfl)); intro gx hg wx hbox hb; have z0_ := Aside0.mk (below_step HB.out hb); have z1_ := Aside0.mk ((Kd.R_mono (Kd.R_below (Kd.R_bound HO.out) hb) (fun k_ hk => ⟨hk.1, fun e_ => by have := hk.2.2.1; omega⟩) : Kd.R k32 32 wx w.heap.size (fun k_ : Nat => (True) ∧ k_ ≠ gx) (.slice A l.length c) (l))); have z2_ := Aside0.mk (hbox); have z3_ := Aside0.mk (((by rw [hg]; exact (below_size HB.out)) : w.heap.size ≤ gx)); clear HB HO; have HB := z0_; clear z0_; have HO := z1_; clear z1_; have BKx := z2_; clear z2_; have GEx := z3_; clear z3_; clear hb hbox hg; have hcx_0 : wx.cell? ⟨gx, 0, none⟩ = some (.int .i64 0) := (blk_cell BKx.out 0).trans rfl; have hfx_0 := blk_frozen BKx.out 0; have hcx_1 : wx.cell? ⟨gx, 1, none⟩ = some (.int .u64 0) := (blk_cell BKx.out 1).trans rfl; have hfx_1 := blk_frozen BKx.out 1; skip)) | ((with_reducible refine gate_store (t := 32) (p := 12) rfl ?_); (refine store_event (t := 32) (p := 12) (v := ?vo_wa) (w1 := ((wx.setCell ⟨gx, 0, none⟩ (.int .i64 y.f0)).setCell ⟨gx, 1, none⟩ (.int .u64 y.f1))) ?hg ?ho ?hn ?hr ?_; (case ho => rfl); (case hg => rfl); (case hn => rfl); (case hr => first | (go_simp; done) | (go_simp; rfl)); intro wa hw; clear hcx_0 hfx_0 hcx_1 hfx_1; have z0_ := Aside0.mk ((by rw [hw]; exact (below_set (below_set HB.out GEx.out) GEx.out) : Below w.heap.size w wa)); have z1_ := Aside0.mk ((by rw [hw]; exact (blk_put ((blk_put (BKx.out) 0 _ rfl)) 1 _ rfl) : wa.heap[gx]? = some (.cells #[.int .i64 y.f0, .int .u64 y.f1] 32 (0, 0)))); have z2_ := Aside0.mk ((by rw [hw]; exact Kd.R_mono (Kd.R_far (p := ⟨gx, 1, none⟩) (Kd.R_far (p := ⟨gx, 0, none⟩) HO.out (fun _ hk => hk.2) _) (fun _ hk => hk.2) _) (fun _ hk => hk) : Kd.R k32 32 wa w.heap.size (fun k_ : Nat => (True) ∧ k_ ≠ gx) (.slice A l.length c) (l))); clear HB BKx HO; have HB := z0_; clear z0_; have BKx := z1_; clear z1_; have HO := z2_; clear z2_; clear hw; have hcx_0 : wa.cell? ⟨gx, 0, none⟩ = some (.int .i64 y.f0) := (blk_cell BKx.out 0).trans rfl; have hfx_0 := blk_frozen BKx.out 0; have hcx_1 : wa.cell? ⟨gx, 1, none⟩ = some (.int .u64 y.f1) := (blk_cell BKx.out 1).trans rfl; have hfx_1 := blk_frozen BKx.out 1; skip)) | (go_at_call 40; ((with_reducible refine (hasPick1_calls (fun z => z.f0 == y.f0) (.pointer (some ⟨gx, 0, none⟩)) A c l wa wa (Below.refl _ _) (own_C HO.out).1 (fun W' z hb' => pick1_calls z.f0 z.f1 y.f0 y.f1 gx W' (blk_below BKx.out hb'))).mono ?_); rintro e wb ⟨rfl, hb⟩; rw [HS.out]; clear hcx_0 hfx_0 hcx_1 hfx_1; have z0_ := Aside0.mk (below_step HB.out hb); have z1_ := Aside0.mk (blk_below BKx.out hb); have z2_ := Aside0.mk (Kd.R_below HO.out hb); clear HB BKx HO; have HB := z0_; clear z0_; have BKx := z1_; clear z1_; have HO := z2_; clear z2_; clear hb; have hcx_0 : wb.cell? ⟨gx, 0, none⟩ = some (.int .i64 y.f0) := (blk_cell BKx.out 0).trans rfl; have hfx_0 := blk_frozen BKx.out 0; have hcx_1 : wb.cell? ⟨gx, 1, none⟩ = some (.int .u64 y.f1) := (blk_cell BKx.out 1).trans rfl; have hfx_1 := blk_frozen BKx.out 1; skip)))
                go_roundg (l0.length - i - 1)
                case measure => have := HI.out; omega
                case rel => exact ⟨i + 1, l, by go_num, HG, ⟨by have := HI.out; omega⟩, ⟨(Kd.R_mono HO.out (fun _ _ => trivial))⟩, HB⟩
              | false =>
                cases n with
                | true =>
                  have HG : Aside0 (pickGo a1 l3 (l0.drop (i + 1)) l = r) := by have := HG2.out; rw [if_neg (by simp)] at this; exact ⟨this⟩
                  clear HG2
                  go_wp2_with (first | ((with_reducible refine gate_dst (N := 12) rfl ?_); (refine box_event ?hg (N := 12) ?hd (cs := #[.int .i64 0, .int .u64 0]) (t := 32) ?hr ?_; (case hd => rfl); (case hg => rfl); (case hr => first | (go_simp; done) | (go_simp; rfl)); intro gx hg wx hbox hb; have z0_ := Aside0.mk (below_step HB.out hb); have z1_ := Aside0.mk ((Kd.R_mono (Kd.R_below (Kd.R_bound HO.out) hb) (fun k_ hk => ⟨hk.1, fun e_ => by have := hk.2.2.1; omega⟩) : Kd.R k32 32 wx w.heap.size (fun k_ : Nat => (True) ∧ k_ ≠ gx) (.slice A l.length c) (l))); have z2_ := Aside0.mk (hbox); have z3_ := Aside0.mk (((by rw [hg]; exact (below_size HB.out)) : w.heap.size ≤ gx)); clear HB HO; have HB := z0_; clear z0_; have HO := z1_; clear z1_; have BKx := z2_; clear z2_; have GEx := z3_; clear z3_; clear hb hbox hg; have hcx_0 : wx.cell? ⟨gx, 0, none⟩ = some (.int .i64 0) := (blk_cell BKx.out 0).trans rfl; have hfx_0 := blk_frozen BKx.out 0; have hcx_1 : wx.cell? ⟨gx, 1, none⟩ = some (.int .u64 0) := (blk_cell BKx.out 1).trans rfl; have hfx_1 := blk_frozen BKx.out 1; skip)) | ((with_reducible refine gate_store (t := 32) (p := 12) rfl ?_); (refine store_event (t := 32) (p := 12) (v := ?vo_wa) (w1 := ((wx.setCell ⟨gx, 0, none⟩ (.int .i64 y.f0)).setCell ⟨gx, 1, none⟩ (.int .u64 y.f1))) ?hg ?ho ?hn ?hr ?_; (case ho => rfl); (case hg => rfl); (case hn => rfl); (case hr => first | (go_simp; done) | (go_simp; rfl)); intro wa hw; clear hcx_0 hfx_0 hcx_1 hfx_1; have z0_ := Aside0.mk ((by rw [hw]; exact (below_set (below_set HB.out GEx.out) GEx.out) : Below w.heap.size w wa)); have z1_ := Aside0.mk ((by rw [hw]; exact (blk_put ((blk_put (BKx.out) 0 _ rfl)) 1 _ rfl) : wa.heap[gx]? = some (.cells #[.int .i64 y.f0, .int .u64 y.f1] 32 (0, 0)))); have z2_ := Aside0.mk ((by rw [hw]; exact Kd.R_mono (Kd.R_far (p := ⟨gx, 1, none⟩) (Kd.R_far (p := ⟨gx, 0, none⟩) HO.out (fun _ hk => hk.2) _) (fun _ hk => hk.2) _) (fun _ hk => hk) : Kd.R k32 32 wa w.heap.size (fun k_ : Nat => (True) ∧ k_ ≠ gx) (.slice A l.length c) (l))); clear HB BKx HO; have HB := z0_; clear z0_; have BKx := z1_; clear z1_; have HO := z2_; clear z2_; clear hw; have hcx_0 : wa.cell? ⟨gx, 0, none⟩ = some (.int .i64 y.f0) := (blk_cell BKx.out 0).trans rfl; have hfx_0 := blk_frozen BKx.out 0; have hcx_1 : wa.cell? ⟨gx, 1, none⟩ = some (.int .u64 y.f1) := (blk_cell BKx.out 1).trans rfl; have hfx_1 := blk_frozen BKx.out 1; skip)) | (go_at_call 40; ((with_reducible refine (hasPick1_calls (fun z => z.f0 == y.f0) (.pointer (some ⟨gx, 0, none⟩)) A c l wa wa (Below.refl _ _) (own_C HO.out).1 (fun W' z hb' => pick1_calls z.f0 z.f1 y.f0 y.f1 gx W' (blk_below BKx.out hb'))).mono ?_); rintro e wb ⟨rfl, hb⟩; rw [HS.out]; clear hcx_0 hfx_0 hcx_1 hfx_1; have z0_ := Aside0.mk (below_step HB.out hb); have z1_ := Aside0.mk (blk_below BKx.out hb); have z2_ := Aside0.mk (Kd.R_below HO.out hb); clear HB BKx HO; have HB := z0_; clear z0_; have BKx := z1_; clear z1_; have HO := z2_; clear z2_; clear hb; have hcx_0 : wb.cell? ⟨gx, 0, none⟩ = some (.int .i64 y.f0) := (blk_cell BKx.out 0).trans rfl; have hfx_0 := blk_frozen BKx.out 0; have hcx_1 : wb.cell? ⟨gx, 1, none⟩ = some (.int .u64 y.f1) := (blk_cell BKx.out 1).trans rfl; have hfx_1 := blk_frozen BKx.out 1; skip)) | (go_at_call 42; ((with_reducible refine (slices_Contains_int_int.calls kk A3 c3 l3 y.f0 _ wb (Kd.C_below HR3.out HB.out) HC3.out HK.out).mono ?_); rintro e wc ⟨rfl, hb⟩; replace hb := hb.below; clear hcx_0 hfx_0 hcx_1 hfx_1; have z0_ := Aside0.mk (below_step HB.out hb); have z1_ := Aside0.mk (blk_below BKx.out hb); have z2_ := Aside0.mk (Kd.R_below HO.out hb); clear HB BKx HO; have HB := z0_; clear z0_; have BKx := z1_; clear z1_; have HO := z2_; clear z2_; clear hb; have hcx_0 : wc.cell? ⟨gx, 0, none⟩ = some (.int .i64 y.f0) := (blk_cell BKx.out 0).trans rfl; have hfx_0 := blk_frozen BKx.out 0; have hcx_1 : wc.cell? ⟨gx, 1, none⟩ = some (.int .u64 y.f1) := (blk_cell BKx.out 1).trans rfl; have hfx_1 := blk_frozen BKx.out 1; skip)))
                  go_roundg (l0.length - i - 1)
                  case measure => have := HI.out; omega
                  case rel => exact ⟨i + 1, l, by go_num, HG, ⟨by have := HI.out; omega⟩, ⟨(Kd.R_mono HO.out (fun _ _ => trivial))⟩, HB⟩
                | false =>
                  have HG : Aside0 (pickGo a1 l3 (l0.drop (i + 1)) (l ++ [y]) = r) := by have := HG2.out; rw [if_pos ⟨G1.out, rfl, rfl⟩] at this; exact ⟨this⟩
                  clear HG2
                  go_wp2_with (first | ((with_reducible refine gate_dst (N := 12) rfl ?_); (refine box_event ?hg (N := 12) ?hd (cs := #[.int .i64 0, .int .u64 0]) (t := 32) ?hr ?_; (case hd => rfl); (case hg => rfl); (case hr => first | (go_simp; done) | (go_simp; rfl)); intro gx hg wx hbox hb; have z0_ := Aside0.mk (below_step HB.out hb); have z1_ := Aside0.mk ((Kd.R_mono (Kd.R_below (Kd.R_bound HO.out) hb) (fun k_ hk => ⟨hk.1, fun e_ => by have := hk.2.2.1; omega⟩) : Kd.R k32 32 wx w.heap.size (fun k_ : Nat => (True) ∧ k_ ≠ gx) (.slice A l.length c) (l))); have z2_ := Aside0.mk (hbox); have z3_ := Aside0.mk (((by rw [hg]; exact (below_size HB.out)) : w.heap.size ≤ gx)); clear HB HO; have HB := z0_; clear z0_; have HO := z1_; clear z1_; have BKx := z2_; clear z2_; have GEx := z3_; clear z3_; clear hb hbox hg; have hcx_0 : wx.cell? ⟨gx, 0, none⟩ = some (.int .i64 0) := (blk_cell BKx.out 0).trans rfl; have hfx_0 := blk_frozen BKx.out 0; have hcx_1 : wx.cell? ⟨gx, 1, none⟩ = some (.int .u64 0) := (blk_cell BKx.out 1).trans rfl; have hfx_1 := blk_frozen BKx.out 1; skip)) | ((with_reducible refine gate_store (t := 32) (p := 12) rfl ?_); (refine store_event (t := 32) (p := 12) (v := ?vo_wa) (w1 := ((wx.setCell ⟨gx, 0, none⟩ (.int .i64 y.f0)).setCell ⟨gx, 1, none⟩ (.int .u64 y.f1))) ?hg ?ho ?hn ?hr ?_; (case ho => rfl); (case hg => rfl); (case hn => rfl); (case hr => first | (go_simp; done) | (go_simp; rfl)); intro wa hw; clear hcx_0 hfx_0 hcx_1 hfx_1; have z0_ := Aside0.mk ((by rw [hw]; exact (below_set (below_set HB.out GEx.out) GEx.out) : Below w.heap.size w wa)); have z1_ := Aside0.mk ((by rw [hw]; exact (blk_put ((blk_put (BKx.out) 0 _ rfl)) 1 _ rfl) : wa.heap[gx]? = some (.cells #[.int .i64 y.f0, .int .u64 y.f1] 32 (0, 0)))); have z2_ := Aside0.mk ((by rw [hw]; exact Kd.R_mono (Kd.R_far (p := ⟨gx, 1, none⟩) (Kd.R_far (p := ⟨gx, 0, none⟩) HO.out (fun _ hk => hk.2) _) (fun _ hk => hk.2) _) (fun _ hk => hk) : Kd.R k32 32 wa w.heap.size (fun k_ : Nat => (True) ∧ k_ ≠ gx) (.slice A l.length c) (l))); clear HB BKx HO; have HB := z0_; clear z0_; have BKx := z1_; clear z1_; have HO := z2_; clear z2_; clear hw; have hcx_0 : wa.cell? ⟨gx, 0, none⟩ = some (.int .i64 y.f0) := (blk_cell BKx.out 0).trans rfl; have hfx_0 := blk_frozen BKx.out 0; have hcx_1 : wa.cell? ⟨gx, 1, none⟩ = some (.int .u64 y.f1) := (blk_cell BKx.out 1).trans rfl; have hfx_1 := blk_frozen BKx.out 1; skip)) | (go_at_call 40; ((with_reducible refine (hasPick1_calls (fun z => z.f0 == y.f0) (.pointer (some ⟨gx, 0, none⟩)) A c l wa wa (Below.refl _ _) (own_C HO.out).1 (fun W' z hb' => pick1_calls z.f0 z.f1 y.f0 y.f1 gx W' (blk_below BKx.out hb'))).mono ?_); rintro e wb ⟨rfl, hb⟩; rw [HS.out]; clear hcx_0 hfx_0 hcx_1 hfx_1; have z0_ := Aside0.mk (below_step HB.out hb); have z1_ := Aside0.mk (blk_below BKx.out hb); have z2_ := Aside0.mk (Kd.R_below HO.out hb); clear HB BKx HO; have HB := z0_; clear z0_; have BKx := z1_; clear z1_; have HO := z2_; clear z2_; clear hb; have hcx_0 : wb.cell? ⟨gx, 0, none⟩ = some (.int .i64 y.f0) := (blk_cell BKx.out 0).trans rfl; have hfx_0 := blk_frozen BKx.out 0; have hcx_1 : wb.cell? ⟨gx, 1, none⟩ = some (.int .u64 y.f1) := (blk_cell BKx.out 1).trans rfl; have hfx_1 := blk_frozen BKx.out 1; skip)) | (go_at_call 42; ((with_reducible refine (slices_Contains_int_int.calls kk A3 c3 l3 y.f0 _ wb (Kd.C_below HR3.out HB.out) HC3.out HK.out).mono ?_); rintro e wc ⟨rfl, hb⟩; replace hb := hb.below; clear hcx_0 hfx_0 hcx_1 hfx_1; have z0_ := Aside0.mk (below_step HB.out hb); have z1_ := Aside0.mk (blk_below BKx.out hb); have z2_ := Aside0.mk (Kd.R_below HO.out hb); clear HB BKx HO; have HB := z0_; clear z0_; have BKx := z1_; clear z1_; have HO := z2_; clear z2_; clear hb; have hcx_0 : wc.cell? ⟨gx, 0, none⟩ = some (.int .i64 y.f0) := (blk_cell BKx.out 0).trans rfl; have hfx_0 := blk_frozen BKx.out 0; have hcx_1 : wc.cell? ⟨gx, 1, none⟩ = some (.int .u64 y.f1) := (blk_cell BKx.out 1).trans rfl; have hfx_1 := blk_frozen BKx.out 1; skip)) | ((with_reducible refine gate_builtin (b := .append) (xs := #[.tmp 49, .tmp 51]) rfl ?_); at_builtin; (refine Kd.R_append k32 (w0 := w) w.heap.size rfl (.tmp 49) (.tmp 51) 23 32 (.agg #[(.int .i64 0), (.int .u64 0)]) 16 rfl Try.underlying23 info32 rfl (by decide) (by omega) (.slice A l.length c) (l) (y) [.int .i64 y.f0, .int .u64 y.f1] (fun k_ : Nat => (True) ∧ k_ ≠ gx) (fun _ => False) rfl rfl ?aP (fun _ hk => hk.elim) ?aF ?aO ?aB ?aS ?aL ?_; (case aP => exact k32_mkM _ _ _ y); (case aF => exact (fun k_ hk => ⟨trivial, fun e_ => by have := blk_lt BKx.out; omega⟩)); (case aO => exact HO.out); (case aB => exact HB.out); (case aS => exact below_size HB.out); (case aL => have := G1.out; have := D3.out; omega); intro v2 wd ho hb hg hat; clear hcx_0 hfx_0 hcx_1 hfx_1; have z0_ := Aside0.mk (hb); have z1_ := Aside0.mk (ho); have z2_ := Aside0.mk (blk_grown BKx.out hg (fun e_ => (HO.out.1 _ e_.symm).2 rfl)); clear HB HO BKx; have HB := z0_; clear z0_; have HO := z1_; clear z1_; have BKx := z2_; clear z2_; clear ho hb hg hat; have hcx_0 : wd.cell? ⟨gx, 0, none⟩ = some (.int .i64 y.f0) := (blk_cell BKx.out 0).trans rfl; have hfx_0 := blk_frozen BKx.out 0; have hcx_1 : wd.cell? ⟨gx, 1, none⟩ = some (.int .u64 y.f1) := (blk_cell BKx.out 1).trans rfl; have hfx_1 := blk_frozen BKx.out 1; skip)))
                  go_roundg (l0.length - i - 1)
                  case measure => have := HI.out; omega
                  case rel => exact ⟨i + 1, l ++ [y], by go_num, HG, ⟨by have := HI.out; omega⟩, ⟨(Kd.R_mono HO.out (fun _ _ => trivial))⟩, HB⟩
            · have e4 : decide ((l.length : Int) < a1) = false := decide_eq_false g1
              have HG : Aside0 (pickGo a1 l3 (l0.drop (i + 1)) l = r) := by have := HG2.out; rw [if_neg (fun h => g1 h.1)] at this; exact ⟨this⟩
              clear HG2 g1
              go_wp2_with (first | ((with_reducible refine gate_dst (N := 12) rfl ?_); (refine box_event ?hg (N := 12) ?hd (cs := #[.int .i64 0, .int .u64 0]) (t := 32) ?hr ?_; (case hd => rfl); (case hg => rfl); (case hr => first | (go_simp; done) | (go_simp; rfl)); intro gx hg wx hbox hb; have z0_ := Aside0.mk (below_step HB.out hb); have z1_ := Aside0.mk ((Kd.R_mono (Kd.R_below (Kd.R_bound HO.out) hb) (fun k_ hk => ⟨hk.1, fun e_ => by have := hk.2.2.1; omega⟩) : Kd.R k32 32 wx w.heap.size (fun k_ : Nat => (True) ∧ k_ ≠ gx) (.slice A l.length c) (l))); have z2_ := Aside0.mk (hbox); have z3_ := Aside0.mk (((by rw [hg]; exact (below_size HB.out)) : w.heap.size ≤ gx)); clear HB HO; have HB := z0_; clear z0_; have HO := z1_; clear z1_; have BKx := z2_; clear z2_; have GEx := z3_; clear z3_; clear hb hbox hg; have hcx_0 : wx.cell? ⟨gx, 0, none⟩ = some (.int .i64 0) := (blk_cell BKx.out 0).trans rfl; have hfx_0 := blk_frozen BKx.out 0; have hcx_1 : wx.cell? ⟨gx, 1, none⟩ = some (.int .u64 0) := (blk_cell BKx.out 1).trans rfl; have hfx_1 := blk_frozen BKx.out 1; skip)) | ((with_reducible refine gate_store (t := 32) (p := 12) rfl ?_); (refine store_event (t := 32) (p := 12) (v := ?vo_wa) (w1 := ((wx.setCell ⟨gx, 0, none⟩ (.int .i64 y.f0)).setCell ⟨gx, 1, none⟩ (.int .u64 y.f1))) ?hg ?ho ?hn ?hr ?_; (case ho => rfl); (case hg => rfl); (case hn => rfl); (case hr => first | (go_simp; done) | (go_simp; rfl)); intro wa hw; clear hcx_0 hfx_0 hcx_1 hfx_1; have z0_ := Aside0.mk ((by rw [hw]; exact (below_set (below_set HB.out GEx.out) GEx.out) : Below w.heap.size w wa)); have z1_ := Aside0.mk ((by rw [hw]; exact (blk_put ((blk_put (BKx.out) 0 _ rfl)) 1 _ rfl) : wa.heap[gx]? = some (.cells #[.int .i64 y.f0, .int .u64 y.f1] 32 (0, 0)))); have z2_ := Aside0.mk ((by rw [hw]; exact Kd.R_mono (Kd.R_far (p := ⟨gx, 1, none⟩) (Kd.R_far (p := ⟨gx, 0, none⟩) HO.out (fun _ hk => hk.2) _) (fun _ hk => hk.2) _) (fun _ hk => hk) : Kd.R k32 32 wa w.heap.size (fun k_ : Nat => (True) ∧ k_ ≠ gx) (.slice A l.length c) (l))); clear HB BKx HO; have HB := z0_; clear z0_; have BKx := z1_; clear z1_; have HO := z2_; clear z2_; clear hw; have hcx_0 : wa.cell? ⟨gx, 0, none⟩ = some (.int .i64 y.f0) := (blk_cell BKx.out 0).trans rfl; have hfx_0 := blk_frozen BKx.out 0; have hcx_1 : wa.cell? ⟨gx, 1, none⟩ = some (.int .u64 y.f1) := (blk_cell BKx.out 1).trans rfl; have hfx_1 := blk_frozen BKx.out 1; skip)) | (go_at_call 40; ((with_reducible refine (hasPick1_calls (fun z => z.f0 == y.f0) (.pointer (some ⟨gx, 0, none⟩)) A c l wa wa (Below.refl _ _) (own_C HO.out).1 (fun W' z hb' => pick1_calls z.f0 z.f1 y.f0 y.f1 gx W' (blk_below BKx.out hb'))).mono ?_); rintro e wb ⟨rfl, hb⟩; rw [HS.out]; clear hcx_0 hfx_0 hcx_1 hfx_1; have z0_ := Aside0.mk (below_step HB.out hb); have z1_ := Aside0.mk (blk_below BKx.out hb); have z2_ := Aside0.mk (Kd.R_below HO.out hb); clear HB BKx HO; have HB := z0_; clear z0_; have BKx := z1_; clear z1_; have HO := z2_; clear z2_; clear hb; have hcx_0 : wb.cell? ⟨gx, 0, none⟩ = some (.int .i64 y.f0) := (blk_cell BKx.out 0).trans rfl; have hfx_0 := blk_frozen BKx.out 0; have hcx_1 : wb.cell? ⟨gx, 1, none⟩ = some (.int .u64 y.f1) := (blk_cell BKx.out 1).trans rfl; have hfx_1 := blk_frozen BKx.out 1; skip)))
              go_roundg (l0.length - i - 1)
              case measure => have := HI.out; omega
              case rel => exact ⟨i + 1, l, by go_num, HG, ⟨by have := HI.out; omega⟩, ⟨(Kd.R_mono HO.out (fun _ _ => trivial))⟩, HB⟩
          · have HE : Aside0 (l = r) := by have := HG.out; rw [List.drop_eq_nil_of_le (by omega), pickGo] at this; exact ⟨this⟩
            have hge : decide ((i : Int) < (l0.length : Int)) = false := by simp; omega
            clear HG
            obtain rfl := HE.out
            by_cases g2 : (l.length : Int) < a2
            · have h := H.out
              rw [if_pos g2] at h
              simp only [Option.some.injEq, Prod.mk.injEq] at h
              obtain ⟨rfl, rfl⟩ := h
              have e5 : decide ((l.length : Int) < a2) = true := decide_eq_true g2
              clear H HE g2
              go_wp2
              go_ret2
              exact ⟨_, rfl, Kd.R_nil _ _ _ _ _, HB.out⟩
            · have h := H.out
              rw [if_neg g2] at h
              simp only [Option.some.injEq, Prod.mk.injEq] at h
              obtain ⟨rfl, rfl⟩ := h
              have e5 : decide ((l.length : Int) < a2) = false := decide_eq_false g2
              clear H HE g2
              go_wp2
              go_ret2
              exact ⟨_, rfl, HO.out, HB.out⟩
end Go.Proofs.Ytipjnfljkknmgaa.Q
namespace Go.Proofs.Ytipjnfljkknmgaa.Q
open Go.RowKit Go.Proofs.YtipjnfljkknmgaaW.PrintWords Go.Proofs.YtipjnfljkknmgaaW.PrintLast Go.Proofs.YtipjnfljkknmgaaW.PrintMore
attribute [local go_sem] max2_int min2_int max_two min_two max_three min_three max_four min_four   -- for this text's walks alone
set_option linter.unusedVariables false
set_option linter.unusedSimpArgs false
def threeR14.f  : Option (Int × (List (S32))) := (scrivenerlaw14_place.f 7).bind fun bt146 => ((scrivenerlaw14_place.f 8).bind fun bt148 => ((scrivenerlaw14_place.f 9).bind fun bt150 => (some (3, (([(⟨bt146.1, bt146.2⟩ : S32), (⟨bt148.1, bt148.2⟩ : S32), (⟨bt150.1, bt150.2⟩ : S32)] : List (S32)))))))
set_option maxHeartbeats 8000000 in
set_option maxRecDepth 100000 in
theorem threeR14.calls  (r1 : Int) (r2 : List (S32)) (w : World) (h : threeR14.f  = some (r1, r2)) :
    Calls Try.prog 33 #[] w fun e w' => ∃ v1_ : Value, e = .returned (.agg #[.int .u64 r1, v1_]) ∧ Kd.R k32 32 w' w.heap.size (fun _ => True) v1_ r2 ∧ Below w.heap.size w w' := by
  have hu25 := Try.underlying25
  have HB := Aside0.mk (Below.refl w.heap.size w)
  have H : ((scrivenerlaw14_place.f 7).bind fun bt146 => ((scrivenerlaw14_place.f 8).bind fun bt148 => ((scrivenerlaw14_place.f 9).bind fun bt150 => (some (3, (([(⟨bt146.1, bt146.2⟩ : S32), (⟨bt148.1, bt148.2⟩ : S32), (⟨bt150.1, bt150.2⟩ : S32)] : List (S32)))))))) = some (r1, r2) := h
  clear h
  replace H := Option.bind_eq_some_iff.mp H
  obtain ⟨⟨t146, t147⟩, A10, H⟩ := H
  replace H : ((scrivenerlaw14_place.f 8).bind fun bt148 => ((scrivenerlaw14_place.f 9).bind fun bt150 => (some (3, (([(⟨t146, t147⟩ : S32), (⟨bt148.1, bt148.2⟩ : S32), (⟨bt150.1, bt150.2⟩ : S32)] : List (S32))))))) = some (r1, r2) := H
  have A1 := Aside0.mk A10
  clear A10
  replace H := Option.bind_eq_some_iff.mp H
  obtain ⟨⟨t148, t149⟩, A20, H⟩ := H
  replace H : ((scrivenerlaw14_place.f 9).bind fun bt150 => (some (3, (([(⟨t146, t147⟩ : S32), (⟨t148, t149⟩ : S32), (⟨bt150.1, bt150.2⟩ : S32)] : List (S32)))))) = some (r1, r2) := H
  have A2 := Aside0.mk A20
  clear A20
  replace H := Option.bind_eq_some_iff.mp H
  obtain ⟨⟨t150, t151⟩, A30, H⟩ := H
  replace H : (some (3, (([(⟨t146, t147⟩ : S32), (⟨t148, t149⟩ : S32), (⟨t150, t151⟩ : S32)] : List (S32))))) = some (r1, r2) := H
  have A3 := Aside0.mk A30
  clear A30
  obtain ⟨y152, hy152⟩ : ∃ y_ : List (S32), y_ = (([(⟨t146, t147⟩ : S32), (⟨t148, t149⟩ : S32), (⟨t150, t151⟩ : S32)] : List (S32))) := ⟨_, rfl⟩
  replace H : (some (3, y152)) = some (r1, r2) := by first | (rw [hy152]; with_reducible exact H) | (have H2_ := (Option.bind_some _ _).symm.trans H; rw [hy152]; with_reducible exact H2_) | (have H2_ := (Option.bind_some _ _).symm.trans H; with_reducible exact H2_) | with_reducible exact H | (rw [hy152]; exact H) | exact H
  have Ny152 := Aside0.mk hy152
  clear hy152
  simp only [Option.some.injEq, Prod.mk.injEq] at H
  obtain ⟨rfl, rfl⟩ := H
  go_enter Try.func33, Try.ntmps33
  go_wp2_with (first | ((with_reducible refine gate_dst (N := 0) rfl ?_); refine box_event ?hg (N := 0) ?hd (cs := #[.int .u64 0, .slice none 0 0]) (t := 25) ?hr ?_; (case hd => rfl); (case hg => rfl); (case hr => first | (go_simp; done) | (go_simp; rfl)); intro gb145 hg w4 hbox hb; have n0_ := Aside0.mk (below_step (Hb HB.out) hb); have n1_ := Aside0.mk (hbox); have n2_ := Aside0.mk ((by rw [hg]; exact (below_size (Hb HB.out)) : w.heap.size ≤ gb145)); have n3_ := Aside0.mk ((by rw [hg]; exact (below_size (Hb HB.out)) : w.heap.size ≤ gb145)); clear HB; have HB := n0_; have BK145 := n1_; have GW145 := n2_; have GE145 := n3_; clear n0_ n1_ n2_ n3_; clear hb hbox hg) | ((with_reducible refine gate_callee (f := 34) rfl ?_); refine goesL_ (some 1) rfl rfl Try.func34 (by kernel_rfl) rfl #[.int .i64 7] rfl (by (try simp only [List.map_toArray, List.map_cons, List.map_nil]); first | done | rfl | (simp only [List.length_drop, List.length_take]; rfl)) ?_; (with_reducible refine (scrivenerlaw14_place.calls 7 t146 t147 _ A1.out).mono ?_); rintro e w5 ⟨rfl, hb⟩; refine ⟨_, rfl, ?_⟩; have n0_ := Aside0.mk (blk_below (Bb BK145.out) hb); have n1_ := Aside0.mk (below_step (Hb HB.out) hb); clear BK145; clear HB; have BK145 := n0_; have HB := n1_; clear n0_ n1_; (try clear hb); (try clear hb2); (try clear hk); (try clear hi)) | ((with_reducible refine gate_callee (f := 34) rfl ?_); refine goesL_ (some 2) rfl rfl Try.func34 (by kernel_rfl) rfl #[.int .i64 8] rfl (by (try simp only [List.map_toArray, List.map_cons, List.map_nil]); first | done | rfl | (simp only [List.length_drop, List.length_take]; rfl)) ?_; (with_reducible refine (scrivenerlaw14_place.calls 8 t148 t149 _ A2.out).mono ?_); rintro e w6 ⟨rfl, hb⟩; refine ⟨_, rfl, ?_⟩; have n0_ := Aside0.mk (blk_below (Bb BK145.out) hb); have n1_ := Aside0.mk (below_step (Hb HB.out) hb); clear BK145; clear HB; have BK145 := n0_; have HB := n1_; clear n0_ n1_; (try clear hb); (try clear hb2); (try clear hk); (try clear hi)) | ((with_reducible refine gate_callee (f := 34) rfl ?_); refine goesL_ (some 3) rfl rfl Try.func34 (by kernel_rfl) rfl #[.int .i64 9] rfl (by (try simp only [List.map_toArray, List.map_cons, List.map_nil]); first | done | rfl | (simp only [List.length_drop, List.length_take]; rfl)) ?_; (with_reducible refine (scrivenerlaw14_place.calls 9 t150 t151 _ A3.out).mono ?_); rintro e w7 ⟨rfl, hb⟩; refine ⟨_, rfl, ?_⟩; have n0_ := Aside0.mk (blk_below (Bb BK145.out) hb); have n1_ := Aside0.mk (below_step (Hb HB.out) hb); clear BK145; clear HB; have BK145 := n0_; have HB := n1_; clear n0_ n1_; (try clear hb); (try clear hb2); (try clear hk); (try clear hi)) | ((with_reducible refine gate_dst (N := 4) rfl ?_); refine Kd.R_lit k32 _ 32 ?hg (N := 4) ?hd (xs := ([(⟨t146, t147⟩ : S32), (⟨t148, t149⟩ : S32), (⟨t150, t151⟩ : S32)] : List (S32))) (inner := [.int .i64 t146, .int .u64 t147, .int .i64 t148, .int .u64 t149, .int .i64 t150, .int .u64 t151]) (ok := fun _ => True) (okp := fun _ => True) ?hr ?hp (fun _ hk => hk) trivial (Below.refl _ _) (Nat.le_refl _) (by simp) ?_; (case hd => rfl); (case hg => rfl); (case hr => first | (go_simp; done) | (go_simp; rfl)); (case hp => exact (Reps.c2 (show Kd.M k32 _ _ _ (⟨t146, t147⟩ : S32) [.int .i64 t146, .int .u64 t147] from (k32_mkM _ _ _ (⟨t146, t147⟩ : S32) )) (Reps.c2 (show Kd.M k32 _ _ _ (⟨t148, t149⟩ : S32) [.int .i64 t148, .int .u64 t149] from (k32_mkM _ _ _ (⟨t148, t149⟩ : S32) )) (Reps.c2 (show Kd.M k32 _ _ _ (⟨t150, t151⟩ : S32) [.int .i64 t150, .int .u64 t151] from (k32_mkM _ _ _ (⟨t150, t151⟩ : S32) )) (Reps.none _ _))))); intro v153 w8 ho9 hb hg_ hnew_; clear hg_ hnew_; (first | rw [← Ny152.out] at ho9 | (simp only [Int.reduceToNat] at ho9; rw [← Ny152.out] at ho9)); have n0_ := Aside0.mk (Kd.R_lower ho9 (below_size (Hb HB.out))); have n1_ := Aside0.mk (blk_below (Bb BK145.out) hb); have n2_ := Aside0.mk (below_step (Hb HB.out) hb); clear BK145; clear HB; have HO154 := n0_; have BK145 := n1_; have HB := n2_; clear n0_ n1_ n2_; clear hb ho9; obtain ⟨Ao10, co10, eo10⟩ := Kd.R_slice HO154.out; subst eo10; have hcz11_0 : w8.cell? ⟨gb145, 0, none⟩ = some (.int .u64 0) := (blk_cell BK145.out 0).trans rfl; have hcz11_1 : w8.cell? ⟨gb145, 1, none⟩ = some (.slice none 0 0) := (blk_cell BK145.out 1).trans rfl; have hfz11_0 := blk_frozen BK145.out 0; have hfz11_1 := blk_frozen BK145.out 1))
  refine bodyPost_ret (results_cell_row rfl _ _ gb145 25 #[.int .u64 3, .slice Ao10 y152.length co10] (0, 0) _ rfl (by (with_reducible repeat (first | refine blk_drewN ?_ _ | refine blk_drew ?_ | refine blk_alloc ?_ _)); refine blk_put (cs := #[.int .u64 3, .slice none 0 0]) ?_ 1 _ rfl; (with_reducible repeat (first | refine blk_drewN ?_ _ | refine blk_drew ?_ | refine blk_alloc ?_ _)); refine blk_put (cs := #[.int .u64 0, .slice none 0 0]) ?_ 0 _ rfl; (with_reducible repeat (first | refine blk_drewN ?_ _ | refine blk_drew ?_ | refine blk_alloc ?_ _)); exact BK145.out) Try.underlying25 rfl (by kernel_rfl)) rfl ?_
  exact ⟨_, by first | rfl | (simp [errW_none, errW_some] <;> rfl) | (simp [*, errW_none, errW_some] <;> rfl), by (with_reducible repeat (first | apply Kd.R_alloc | apply Kd.R_drewN | apply Kd.R_drew)); exact Kd.R_mono (Kd.R_far (p := ⟨gb145, 1, none⟩) (Kd.R_far (p := ⟨gb145, 0, none⟩) (Kd.R_types HO154.out BK145.out (by decide)) (fun _ hk => hk.2) (.int .u64 3)) (fun _ hk => hk.2) (.slice Ao10 y152.length co10)) (fun _ hk => trivial), by repeat (first | (with_reducible first | exact HB.out | apply below_alloc | apply pw_below_drewN | apply below_drew1 | refine below_set ?_ GE145.out) | exact HB.out)⟩
end Go.Proofs.Ytipjnfljkknmgaa.Q
namespace Go.Proofs.Ytipjnfljkknmgaa.Q
open Go.RowKit Go.Proofs.YtipjnfljkknmgaaW.PrintWords Go.Proofs.YtipjnfljkknmgaaW.PrintLast Go.Proofs.YtipjnfljkknmgaaW.PrintMore
set_option linter.unusedVariables false
set_option linter.unusedSimpArgs false
def scrivenerlaw14_three.f : Option (Int × List S32) := threeR14.f
theorem scrivenerlaw14_three.calls (r1 : Int) (r2 : List S32) (w : World) (h : scrivenerlaw14_three.f = some (r1, r2)) :
    Calls Try.prog 33 #[] w fun e w' => ∃ v1_ : Value, e = .returned (.agg #[.int .u64 r1, v1_]) ∧ Kd.V k32 32 w' w.heap.size (fun k_ => (w.heap.size ≤ k_)) v1_ r2 ∧ Below w.heap.size w w' := by
  refine (threeR14.calls r1 r2 w h).mono ?_
  rintro e w' ⟨v, rfl, hr, hb⟩
  exact ⟨v, rfl, Kd.V_mono (Kd.R_V (Kd.R_bound hr)) (fun k hk => hk.2.1), hb⟩
end Go.Proofs.Ytipjnfljkknmgaa.Q
