/- Part 1 of the proof of the row ReaderStays: written for this claim by the session and by a program of its own. -/
import Derived.Test.YtjoboiegkbmgmaaCReaderStaysp0
import Derived.Laws.IdiomStrings
import Derived.Laws.Tables
set_option linter.unusedVariables false
set_option linter.unusedSimpArgs false
namespace Go.AM
variable {P : Program}
theorem run_append_room_src' (w : World) (t tx ty e : TypeId) (i : TypeInfo) (c : Nat) (hc' : i.size = c) (ht : P.underlying t = some (.slice e)) (hi : P.info? e = some i) (b o sLen sCap : Nat) (x : Value) (n : Nat) (news : List Value) (hs : Src P c tx x n news w)
    (hroom : sLen + n ≤ sCap) {vs : Array Value} (hv : Cells w b vs) (hle : o + sLen * c + news.length ≤ vs.size) :
    (Builtin.append_ #[t, tx] ty #[.slice (some ⟨b, o, none⟩) sLen sCap, x]).run P w = .ok (.slice (some ⟨b, o, none⟩) (sLen + n) sCap) (w.setCells b (o + sLen * c) news) := by
  subst hc'
  exact run_append_room_src w t tx ty e i ht hi b o sLen sCap x n news hs hroom (fun j hj => by rw [hv.cell (by omega)]; rfl) (fun j hj => hv.frozen (by omega))
/-- The elements told out of cells. -/
theorem src_of {E : Env} {w : World} {tx e' : TypeId} {ag : Bool} {c n : Nat} {f : Nat → AV} (hk : P.underlying tx = some (.slice e')) (blk o cap : Nat) (hc : 1 ≤ c) (hf : ∀ i, i < n → (f i).cells.length = c ∧ (f i).isAgg = ag)
    (hcell : ∀ i j, i < n → j < c → ∃ u, w.cell? ⟨blk, o + i * c + j, none⟩ = some u ∧ u.oneCell' = true ∧ RelF E ((f i).cells.getD j .bot) u) :
    ∃ news : List Value, news.length = n * c ∧ RowOk E ag c n f (fun i => news.getD i undef) ∧ Src P c tx (.slice (some ⟨blk, o, none⟩) n cap) n news w ∧ ∀ j, j < n * c → w.cell? ⟨blk, o + j, none⟩ = some (news.getD j undef) := by
  have hall : ∀ k, k < n * c → ∃ u, w.cell? ⟨blk, o + k, none⟩ = some u ∧ u.oneCell' = true ∧ RelF E ((f (k / c)).cells.getD (k % c) .bot) u := by
    intro k hk
    have h1 : k / c < n := Nat.div_lt_of_lt_mul (by rw [Nat.mul_comm]; exact hk)
    have h2 : k % c < c := Nat.mod_lt _ (by omega)
    obtain ⟨u, a1, a2, a3⟩ := hcell _ _ h1 h2
    have : k / c * c + k % c = k := by rw [Nat.mul_comm]; exact Nat.div_add_mod k c
    rw [show o + k / c * c + k % c = o + k by omega] at a1
    exact ⟨u, a1, a2, a3⟩
  have hget : ∀ k, k < n * c → ((List.range (n * c)).map fun k => (w.cell? ⟨blk, o + k, none⟩).getD undef).getD k undef = (w.cell? ⟨blk, o + k, none⟩).getD undef := by
    intro k hk
    simp [hk]
  refine ⟨(List.range (n * c)).map fun k => (w.cell? ⟨blk, o + k, none⟩).getD undef, by simp, ⟨hf, fun i j hi hj => ?_⟩, ?_, fun j hj => ?_⟩
  · have hle : i * c + c ≤ n * c := by
      have : (i + 1) * c ≤ n * c := Nat.mul_le_mul_right _ hi
      rw [Nat.add_mul, Nat.one_mul] at this
      exact this
    simp only
    rw [hget _ (by omega)]
    obtain ⟨u, a1, a2, a3⟩ := hcell i j hi hj
    rw [← Nat.add_assoc, a1]
    exact ⟨a2, a3⟩
  · refine Src.ofSlice w hk _ n cap _ (by simp) (fun j u hj => ?_) (fun u hu => ?_)
    · obtain ⟨h1, h2⟩ := List.getElem?_eq_some_iff.1 hj
      have h1' : j < n * c := by simpa using h1
      obtain ⟨u', a1, _⟩ := hall j h1'
      simp [a1] at h2
      subst h2
      rw [Addr.add_lit]
      exact a1
    · obtain ⟨k, hk1, hk2⟩ := List.mem_map.1 hu
      have hk1 : k < n * c := by simpa using hk1
      obtain ⟨u', a1, a2, _⟩ := hall k hk1
      rw [a1] at hk2
      simp at hk2
      subst hk2
      exact a2
  · rw [hget j hj]
    obtain ⟨u, a1, _⟩ := hall j hj
    rw [a1]; rfl
theorem src_nil {E : Env} {w : World} {tx e' : TypeId} {ag : Bool} {c : Nat} {f : Nat → AV} (hk : P.underlying tx = some (.slice e')) (a : Option Addr) (cap : Nat) :
    RowOk E ag c 0 f (fun i => ([] : List Value).getD i undef) ∧ Src P c tx (.slice a 0 cap) 0 [] w := by
  refine ⟨⟨fun i hi => by omega, fun i j hi => by omega⟩, ?_⟩
  cases a with
  | none => exact Src.ofNil w hk cap
  | some a => exact Src.ofSlice w hk a 0 cap [] (by simp) (fun j u h => by simp at h) (fun u h => by cases h)
/-- what one's own row holds, as a source -/
theorem arr_src {E : Env} {ι : Io} {h : Hp} {w : World} (d : Den E ι h w) {id : Id} {ag : Bool} {g c m : Nat} {f : Nat → AV} (hb : h id = some (.arr ag g c m f)) {off n cp : Nat} {v : Value} (hv : Rel E ι (.sl id g c off n cp) v) (hn : off + n ≤ m) (hc : 1 ≤ c) {tx e' : TypeId} (hk : P.underlying tx = some (.slice e')) :
    ∃ news : List Value, news.length = n * c ∧ RowOk E ag c n (fun i => f (off + i)) (fun i => news.getD i undef) ∧ Src P c tx v n news w ∧ ∃ a cap, v = .slice a n cap ∧ cp ≤ cap ∧ (n = 0 ∧ cap = 0 ∨ n ≤ cap ∧ ∃ blk o vs, place ι id = some blk ∧ a = some ⟨blk, o, none⟩ ∧ Cells w blk vs ∧ o + cap * c ≤ vs.size ∧ ∀ j, j < n * c → vs.getD (o + j) undef = news.getD j undef) := by
  obtain ⟨loc, a, cap, h1, rfl, h2⟩ := rel_sl hv
  obtain ⟨b0, loc', b1, b2, b3, b4⟩ := d.ok id _ hb
  rw [h1] at b2
  cases b2
  rcases h2 with ⟨rfl, rfl, rfl⟩ | ⟨hnil, hcp, hcpc, hle, rfl⟩
  · obtain ⟨s1, s2⟩ := src_nil (E := E) (w := w) (ag := ag) (c := c) (f := fun i => f (off + i)) hk a 0
    exact ⟨[], by simp, s1, s2, a, 0, rfl, Nat.le_refl _, .inl ⟨rfl, rfl⟩⟩
  · have hcap := Nat.le_trans hcp hcpc
    obtain ⟨vs, c1, c2, c3, c4⟩ := b4 hnil
    have hin : ∀ i j, i < n → j < c → loc.base + (off + i) * c + j < vs.size := by
      intro i j hi hj
      have : (off + i + 1) * c ≤ (off + cap) * c := Nat.mul_le_mul_right _ (by omega)
      rw [Nat.add_mul, Nat.one_mul] at this
      omega
    obtain ⟨news, n1, n2, n3, n4⟩ := src_of (P := P) (E := E) (w := w) (ag := ag) (c := c) (n := n) (f := fun i => f (off + i)) hk loc.blk (loc.base + off * c) cap hc (fun i hi => b0 _ (by omega)) (fun i j hi hj => by
      refine ⟨_, ?_, c4 (off + i) j (by omega) hj⟩
      rw [← c1.cell (hin i j hi hj), Nat.add_mul]
      congr 2
      omega)
    refine ⟨news, n1, n2, n3, _, cap, rfl, hcpc, .inr ⟨hcap, loc.blk, loc.base + off * c, vs, ?_, rfl, c1, by rw [Nat.add_mul] at hle; omega, fun j hj => ?_⟩⟩
    · unfold place
      rw [List.getLast?_eq_getElem?, b1]
      simp [h1, hnil]
    · have hlt : loc.base + off * c + j < vs.size := by
        have : n * c ≤ cap * c := Nat.mul_le_mul_right _ hcap
        rw [Nat.add_mul] at hle
        omega
      have := n4 j hj
      rw [c1.cell hlt] at this
      simpa using this
theorem srcK_sound {α : Type} {ty : TypeId → TI} (L : Lh) (e : TypeId) (x : AV) (s : α) (k : Prop → Nat → (Nat → AV) → α) (h1 : 1 ≤ (ty e).size) :
    srcK ty L e x s k = s ∨ ∃ p n f, srcK ty L e x s k = k p n f ∧ (p → ∀ (E : Env) (ι : Io) (h : Hp) (w : World) (v : Value) (tx e' : TypeId), P.underlying tx = some (.slice e') → Den E ι (hp h L) w → Rel E ι x v →
      ∃ news : List Value, news.length = n * (ty e).size ∧ RowOk E (ty e).agg (ty e).size n f (fun i => news.getD i undef) ∧ Src P (ty e).size tx v n news w ∧ ∃ a cap, v = .slice a n cap) := by
  unfold srcK
  split
  · rename_i ag c n f
    split
    · rename_i hb
      simp only [Bool.and_eq_true, Nat.beq_eq, beq_iff_eq] at hb
      obtain ⟨rfl, rfl⟩ := hb
      refine .inr ⟨_, _, _, rfl, fun _ E ι h w v tx e' hk hD hv => ?_⟩
      obtain ⟨a, cap, e0, hv2⟩ := rel_vs hv
      subst e0
      rcases hv2 with rfl | ⟨blk, o, vals, rfl, k1, k2, k3, k4, k5, k6, k7⟩
      · obtain ⟨s1, s2⟩ := src_nil (P := P) (E := E) (w := w) (ag := (ty e).agg) (c := (ty e).size) (f := f) hk a cap
        exact ⟨[], by simp, s1, s2, _, _, rfl⟩
      · obtain ⟨news, n1, n2, n3, _⟩ := src_of (P := P) (E := E) (w := w) (ag := (ty e).agg) (c := (ty e).size) (n := n) (f := f) hk blk o cap h1 (fun i hi => ⟨k4 i hi, k5 i hi⟩) (fun i j hi hj => by
          refine ⟨_, ?_, k3 i j hi hj, k7 i j hi hj⟩
          rw [← k6 i j hi hj]
          simp only [World.cell?, (hD.kept blk k1).1])
        exact ⟨news, n1, n2, n3, _, _, rfl⟩
    · exact .inl rfl
  · rename_i id g c off n cp
    split
    · rename_i q
      rw [getBK_eq]
      split
      · rename_i b hb
        split
        · exact .inl rfl
        · rename_i ag g' c' m f
          split
          · rename_i hcond
            simp only [Bool.and_eq_true, Nat.beq_eq, beq_iff_eq] at hcond
            obtain ⟨⟨rfl, rfl⟩, rfl⟩ := hcond
            refine .inr ⟨_, _, _, rfl, fun ⟨hp', hg⟩ E ι h w v tx e' hk hD hv => ?_⟩
            subst hg
            obtain ⟨news, n1, n2, n3, a, cap, e, _⟩ := arr_src (P := P) hD (id := .l q) hb hv hp' h1 hk
            exact ⟨news, n1, n2, n3, a, cap, e⟩
          · exact .inl rfl
      · exact .inl rfl
    · exact .inl rfl
  · split
    · rename_i a l cp
      split
      · split
        · refine .inr ⟨_, _, _, rfl, fun _ E ι h w v tx e' hk hD hv => ?_⟩
          have := (rel_val hv).1
          subst this
          obtain ⟨s1, s2⟩ := src_nil (P := P) (E := E) (w := w) (ag := (ty e).agg) (c := (ty e).size) (f := fun _ => .bot) hk none cp
          exact ⟨[], by simp, s1, s2, _, _, rfl⟩
        · exact .inl rfl
      · exact .inl rfl
    · exact .inl rfl
  · exact .inl rfl
/-- A row's next generation. -/
theorem Den.regen {E : Env} {ι : Io} {h : Hp} {w w' : World} (d : Den E ι h w) {id : Id} {b : Blk} {loc : Loc} (ho : (∃ b0, h id = some b0) ∨ ι id = []) (hw : ∀ k, k < w.heap.size → place ι id ≠ some k → w'.heap[k]? = w.heap[k]?)
    (hos : w'.os = w.os) (ht : w'.tape = w.tape) (hou : w'.output = w.output) (hloc : loc.nil = true ∨ w.heap.size ≤ loc.blk ∨ place ι id = some loc.blk)
    (hb : BlkOk E (ins ι id (ι id ++ [loc])) w' id b) : Den E (ins ι id (ι id ++ [loc])) (upd h id b) w' := by
  have hle : Io.le ι (ins ι id (ι id ++ [loc])) := ins_le (.inr ⟨_, rfl⟩)
  have pid : place (ins ι id (ι id ++ [loc])) id = if loc.nil then Option.none else some loc.blk := by simp [place, ins_same]
  have pne : ∀ i, i ≠ id → place (ins ι id (ι id ++ [loc])) i = place ι i := fun i h => by unfold place; rw [ins_ne h]
  have hh : ∀ k, place ι id = some k → ∃ b0, h id = some b0 := by
    intro k hk
    rcases ho with ho | ho
    · exact ho
    · simp [place, ho] at hk
  have other : ∀ i b' k, i ≠ id → h i = some b' → place ι i = some k → k < w.heap.size ∧ place ι id ≠ some k := by
    intro i b' k hi hb' hk
    refine ⟨d.lt hb' hk, fun e => ?_⟩
    obtain ⟨b0, h0⟩ := hh k e
    exact d.apart i id b' b0 k hb' h0 hi hk e
  constructor
  · intro k hk
    have := d.kept k hk
    refine ⟨(hw k (d.keep_lt hk) fun e => ?_).trans this.1, this.2⟩
    obtain ⟨b0, h0⟩ := hh k e
    exact d.own id b0 k h0 e hk
  · exact hos.trans d.os
  · exact ht.trans d.tape
  · exact hou.trans d.output
  · intro i b' hb'
    unfold upd at hb'
    split at hb'
    · rename_i e; subst e; cases hb'; exact hb
    · rename_i e
      exact (d.ok i b' hb').mono (Env.le.refl E) hle (ins_ne e) (fun k hk => hw k (other i b' k e hb' hk).1 (other i b' k e hb' hk).2)
  · have key : ∀ i b' k, i ≠ id → h i = some b' → place ι i = some k → place (ins ι id (ι id ++ [loc])) id = some k → False := by
      intro i b' k hi hb' hk hk'
      rw [pid] at hk'
      obtain ⟨o1, o2⟩ := other i b' k hi hb' hk
      rcases hloc with e | e | e
      · rw [e] at hk'; simp at hk'
      · split at hk'
        · cases hk'
        · cases hk'; omega
      · split at hk'
        · cases hk'
        · cases hk'; exact o2 e
    intro i i' b1 b2 k h1 h2 hne hk hk'
    unfold upd at h1 h2
    split at h1
    · rename_i e
      subst e
      split at h2
      · rename_i e2; exact hne e2.symm
      · rename_i e2
        rw [pne _ e2] at hk'
        exact key i' b2 k e2 h2 hk' hk
    · rename_i e
      rw [pne _ e] at hk
      split at h2
      · rename_i e2
        subst e2
        exact key i b1 k e h1 hk hk'
      · rename_i e2
        rw [pne _ e2] at hk'
        exact d.apart i i' b1 b2 k h1 h2 hne hk hk'
  · intro i b' k h1 hk hkeep
    unfold upd at h1
    split at h1
    · rename_i e
      subst e
      rw [pid] at hk
      split at hk
      · cases hk
      · cases hk
        rename_i hn
        rcases hloc with e | e | e
        · exact hn e
        · have := d.keep_lt hkeep
          omega
        · obtain ⟨b0, h0⟩ := hh _ e
          exact d.own i b0 _ h0 e hkeep
    · rename_i e
      rw [pne _ e] at hk
      exact d.own i b' k h1 hk hkeep
theorem app_core {E : Env} {ι : Io} {h : Hp} {w : World} (d : Den E ι h w) {id : Id} (ho : (∃ b0, h id = some b0) ∨ ι id = []) {t e tx rt : TypeId} {x y : TI} (g : TyGood P t x) (hx : x.td = .slice e) (ge : TyGood P e y)
    (hc : 1 ≤ y.size) {ag : Bool} {len n cap : Nat} {a : Option Addr} {vx : Value} {cp : Nat} (hcpc : cp ≤ cap) {olds news : List Value} {f0 f1 : Nat → AV} (o1 : olds.length = len * y.size) (o2 : RowOk E ag y.size len f0 (fun i => olds.getD i undef)) (o3 : Src P y.size t (.slice a len cap) len olds w)
    (n1 : news.length = n * y.size) (n2 : RowOk E ag y.size n f1 (fun i => news.getD i undef)) (n3 : Src P y.size tx vx n news w)
    (hpl : len = 0 ∧ cap = 0 ∨ len ≤ cap ∧ ∃ blk o vs, place ι id = some blk ∧ a = some ⟨blk, o, none⟩ ∧ Cells w blk vs ∧ o + cap * y.size ≤ vs.size ∧ ∀ j, j < len * y.size → vs.getD (o + j) undef = olds.getD j undef)
    (hby : (len + n) * y.bytes ≤ 140737488355328) (h63 : len + n ≤ 9223372036854775807) :
    ∃ r w' loc, (Builtin.append_ #[t, tx] rt #[.slice a len cap, vx]).run P w = .ok r w' ∧ Den E (ins ι id (ι id ++ [loc])) (upd h id (.arr ag (ι id).length y.size (len + n) (fun i => bif Nat.blt i len then f0 i else f1 (i - len)))) w' ∧
      Rel E (ins ι id (ι id ++ [loc])) (.sl id (ι id).length y.size 0 (len + n) (max cp (len + n))) r := by
  obtain ⟨i, z, h1, h2, h3, h4, h5⟩ := ge.info
  have hzs : z.cells.size = y.size := by rw [← ge.zsize, ← h5]; simp
  have hF : ∀ i, i < len + n → ((bif Nat.blt i len then f0 i else f1 (i - len)) : AV).cells.length = y.size ∧ ((bif Nat.blt i len then f0 i else f1 (i - len)) : AV).isAgg = ag := by
    intro i hi
    cases hb : Nat.blt i len with
    | true => exact o2.1 i (Nat.blt_eq.mp hb)
    | false =>
      have : ¬ i < len := fun hlt => by rw [← Nat.blt_eq, hb] at hlt; cases hlt
      exact n2.1 (i - len) (by omega)
  have hD := desc_slice g hx
  by_cases hn : n = 0 ∧ cap = 0
  · obtain ⟨rfl, rfl⟩ := hn
    have hl : len = 0 := by rcases hpl with h | h <;> omega
    subst hl
    have hne : news = [] := by simpa using n1
    subst hne
    refine ⟨_, _, ⟨0, 0, 0, true⟩, run_append_nothing w t tx rt e i hD h1 a 0 0 (Nat.le_refl _) vx (by rw [h2]; exact n3), d.regen ho (fun _ _ _ => rfl) rfl rfl rfl (.inl rfl) ?_, ?_⟩
    · exact ⟨hF, ⟨0, 0, 0, true⟩, by rw [ins_same]; simp, by rw [ins_same]; simp, fun _ => rfl, fun h => (by cases h)⟩
    · rw [show max cp (0 + 0) = 0 by omega]
      exact .sl0 id _ _ 0 ⟨0, 0, 0, true⟩ a (by rw [ins_same]; simp)
  · by_cases hroom : len + n ≤ cap
    · rcases hpl with ⟨rfl, rfl⟩ | ⟨hcap, blk, o, vs, p1, rfl, p2, p3, p4⟩
      · omega
      · have hle : o + len * y.size + news.length ≤ vs.size := by
          have : (len + n) * y.size ≤ cap * y.size := Nat.mul_le_mul_right _ hroom
          rw [Nat.add_mul] at this
          omega
        have hset := p2.set news (o + len * y.size)
        refine ⟨_, _, ⟨blk, o, vs.size, false⟩, run_append_room_src' w t tx rt e i y.size h2 hD h1 blk o len cap vx n news n3 hroom p2 hle,
          d.regen ho (fun k hk hne => heap_setCells_ne _ _ _ _ _ (fun e => hne (e ▸ p1))) (setCells_os _ _ _ _).1 (setCells_os _ _ _ _).2.1 (setCells_os _ _ _ _).2.2 (.inr (.inr p1)) ?_, ?_⟩
        · refine ⟨hF, ⟨blk, o, vs.size, false⟩, by rw [ins_same]; simp, by rw [ins_same]; simp, fun h => (by cases h), fun _ => ⟨_, hset, by rw [putV_size], Nat.le_trans (Nat.add_le_add_left (Nat.mul_le_mul_right _ hroom) _) p3, fun k j hk hj => ?_⟩⟩
          have hk1 : k * y.size + y.size ≤ (len + n) * y.size := by
            have : (k + 1) * y.size ≤ (len + n) * y.size := Nat.mul_le_mul_right _ hk
            rw [Nat.add_mul, Nat.one_mul] at this
            exact this
          rw [Nat.add_mul] at hk1
          simp only
          rw [putV_get _ _ _ _ hle]
          cases hb : Nat.blt k len with
          | true =>
            have hlt := Nat.blt_eq.mp hb
            have hk2 : k * y.size + y.size ≤ len * y.size := by
              have : (k + 1) * y.size ≤ len * y.size := Nat.mul_le_mul_right _ hlt
              rw [Nat.add_mul, Nat.one_mul] at this
              exact this
            rw [if_neg (by omega), Nat.add_assoc, p4 _ (by omega)]
            exact o2.2 k j hlt hj
          | false =>
            have hge : len ≤ k := Nat.le_of_not_lt fun hlt => by rw [← Nat.blt_eq, hb] at hlt; cases hlt
            obtain ⟨q, rfl⟩ := Nat.exists_eq_add_of_le hge
            rw [Nat.add_mul, Nat.add_sub_cancel_left]
            rw [Nat.add_mul] at hk1
            rw [if_pos (by omega), show o + (len * y.size + q * y.size) + j - (o + len * y.size) = q * y.size + j by omega]
            exact n2.2 q j (by omega) hj
        · have := Rel.sl (E := E) (ι := ins ι id (ι id ++ [⟨blk, o, vs.size, false⟩])) id (ι id).length y.size 0 (len + n) (max cp (len + n)) cap ⟨blk, o, vs.size, false⟩ (by rw [ins_same]; simp) rfl (by omega) (by omega) (by simpa using p3)
          simpa using this
    · have hgrow := run_append_grow_src (P := P) w t tx rt e i z hD h1 h4 a len cap olds (by rw [h2]; exact o3.cellsD) vx n news (by rw [h2]; exact n3) (by omega) (by omega) (growslice_fits (by omega) (by rw [h3]; exact hby))
      generalize hcp : grownCap w (len + n) cap e = cn at hgrow
      have hge : len + n ≤ cn := by rw [← hcp]; exact grownCap_ge w _ _ _
      have hsz : ((olds ++ news).toArray ++ Builtin.zeroCells z.cells (cn - (len + n))).size = cn * y.size := by
        simp only [Array.size_append, List.size_toArray, List.length_append, o1, n1, size_zeroCells, hzs]
        rw [← Nat.add_mul, ← Nat.add_mul]
        congr 1
        omega
      have hget : ∀ k, k < (len + n) * y.size → ((olds ++ news).toArray ++ Builtin.zeroCells z.cells (cn - (len + n))).getD k undef = (olds ++ news).getD k undef := by
        intro k hk
        have hk' : k < (olds ++ news).length := by rw [List.length_append, o1, n1, ← Nat.add_mul]; exact hk
        rw [Array.getD_eq_getD_getElem?, Array.getElem?_append_left (by simpa using hk')]
        simp
      generalize hcells : ((olds ++ news).toArray ++ Builtin.zeroCells z.cells (cn - (len + n))) = cells at hgrow hsz hget
      refine ⟨_, _, ⟨w.heap.size, 0, cells.size, false⟩, hgrow, d.regen ho (fun k hk _ => ?_) rfl rfl rfl (.inr (.inl (Nat.le_refl _))) ?_, ?_⟩
      · show (w.heap.push _)[k]? = _
        rw [Array.getElem?_push, if_neg (by omega)]
      · refine ⟨hF, ⟨w.heap.size, 0, cells.size, false⟩, by rw [ins_same]; simp, by rw [ins_same]; simp, fun h => (by cases h), fun _ => ⟨cells, ⟨e, (0, 0), ?_, fun i _ => by omega⟩, rfl, by simp only [Nat.zero_add, hsz]; exact Nat.mul_le_mul_right _ hge, fun k j hk hj => ?_⟩⟩
        · show (w.heap.push _)[w.heap.size]? = _
          simp
        · have hk1 : k * y.size + y.size ≤ (len + n) * y.size := by
            have : (k + 1) * y.size ≤ (len + n) * y.size := Nat.mul_le_mul_right _ hk
            rw [Nat.add_mul, Nat.one_mul] at this
            exact this
          simp only [Nat.zero_add]
          rw [hget _ (by omega)]
          rw [Nat.add_mul] at hk1
          cases hb : Nat.blt k len with
          | true =>
            have hlt := Nat.blt_eq.mp hb
            have hk2 : k * y.size + y.size ≤ len * y.size := by
              have : (k + 1) * y.size ≤ len * y.size := Nat.mul_le_mul_right _ hlt
              rw [Nat.add_mul, Nat.one_mul] at this
              exact this
            have := o2.2 k j hlt hj
            simp only [List.getD_eq_getElem?_getD] at this ⊢
            rw [List.getElem?_append_left (by omega)]
            exact this
          | false =>
            have hge : len ≤ k := Nat.le_of_not_lt fun hlt => by rw [← Nat.blt_eq, hb] at hlt; cases hlt
            obtain ⟨q, rfl⟩ := Nat.exists_eq_add_of_le hge
            rw [Nat.add_mul] at hk1
            rw [Nat.add_mul, Nat.add_sub_cancel_left]
            have := n2.2 q j (by omega) hj
            simp only [List.getD_eq_getElem?_getD] at this ⊢
            rw [List.getElem?_append_right (by omega), show len * y.size + q * y.size + j - olds.length = q * y.size + j by omega]
            exact this
      · have := Rel.sl (E := E) (ι := ins ι id (ι id ++ [⟨w.heap.size, 0, cells.size, false⟩])) id (ι id).length y.size 0 (len + n) (max cp (len + n)) cn ⟨w.heap.size, 0, cells.size, false⟩ (by rw [ins_same]; simp) rfl (by omega) (by omega) (by simp [hsz])
        simpa using this
/-- what a step that lays or writes one's own row q owes -/
theorem appK_sound {α : Type} {ty : TypeId → TI} (hty : TyOk P ty) (L : Lh) (fr : List Nat) (t tx : TypeId) (d x : AV) (s : α) (k : AV → Lh → List Nat → Prop → α) :
    appK ty L fr t tx d x s k = s ∨ ∃ v L' fr' C, appK ty L fr t tx d x s k = k v L' fr' C ∧ (C → ∀ (E : Env) (ι : Io) (h : Hp) (w : World) (vd vx : Value) (rt : TypeId), Den E ι (hp h L) w → (fr.Nodup ∧ ∀ n ∈ fr, ι (.l n) = []) → Rel E ι d vd → Rel E ι x vx →
      ∃ r w' ι', (Builtin.append_ #[t, tx] rt #[vd, vx]).run P w = .ok r w' ∧ Io.le ι ι' ∧ Den E ι' (hp h L') w' ∧ Rel E ι' v r ∧ (fr'.Nodup ∧ ∀ n ∈ fr', ι' (.l n) = []) ∧ (∀ i, ι' (.o i) = ι (.o i)) ∧ (∀ j, ι' (.n j) = ι (.n j))) := by
  unfold appK
  split
  · exact .inl rfl
  · rename_i hk
    simp only [Bool.and_eq_true] at hk
    split
    · rename_i e he
      split
      · rename_i e' he'
        have g := hty t hk.1
        have gx := hty tx hk.2
        have hkx := desc_slice gx he'
        have hkt := desc_slice g he
        split
        · exact .inl rfl
        · rename_i hb
          simp only [Bool.and_eq_true, Nat.ble_eq] at hb
          have ge := hty e hb.1
          refine (srcK_sound (P := P) (ty := ty) L e x s _ hb.2).elim (fun h => .inl h) (fun ⟨p, n, f, h, hr⟩ => ?_)
          · rename_i hx0
            clear hx0
            rw [h]
            clear h
            split
            · rename_i id g' c off len cp
              split
              · rename_i q
                rw [getBK_eq]
                split
                · rename_i b hbq
                  split
                  · exact .inl rfl
                  · rename_i ag g2 c' m f0
                    split
                    · exact .inl rfl
                    · rename_i hcond
                      simp only [Bool.and_eq_true, Nat.beq_eq, beq_iff_eq] at hcond
                      obtain ⟨⟨rfl, rfl⟩, rfl⟩ := hcond
                      refine .inr ⟨_, _, _, _, rfl, fun hC E ι h w vd vx rt hD hf hd hx => ?_⟩
                      obtain ⟨hp1, hg, hm, hby, h63⟩ := hC
                      subst hg
                      obtain ⟨news, n1, n2, n3, _⟩ := hr hp1 E ι h w vx tx e' hkx hD hx
                      obtain ⟨olds, o1, o2, o3, a, cap, rfl, hcpc, o5⟩ := arr_src (P := P) hD (id := .l q) hbq hd hm hb.2 hkt
                      have hlen : (ι (.l q)).length = g2 + 1 := by
                        obtain ⟨_, _, b1, _⟩ := hD.ok (.l q) _ hbq
                        exact b1
                      obtain ⟨r, w', loc, r1, r2, r3⟩ := app_core (P := P) hD (id := .l q) (.inl ⟨_, hbq⟩) (rt := rt) g he ge hb.2 hcpc o1 o2 o3 n1 n2 n3 o5 hby h63
                      rw [hlen] at r2 r3
                      refine ⟨r, w', _, r1, ins_le (.inr ⟨_, rfl⟩), by rw [hp_cons]; exact r2, r3, ⟨hf.1, fun i hi => ?_⟩, fun i => ins_ne (by simp), fun j => ins_ne (by simp)⟩
                      rw [ins_ne]
                      · exact hf.2 i hi
                      · intro e1
                        cases e1
                        rw [hf.2 _ hi] at hlen
                        simp at hlen
                · exact .inl rfl
              · exact .inl rfl
            · split
              · rename_i v a l cp
                split
                · split
                  · split
                    · split
                      · rename_i q fr
                        refine .inr ⟨_, _, _, _, rfl, fun hC E ι h w vd vx rt hD hf hd hx => ?_⟩
                        obtain ⟨hp1, hby, h63⟩ := hC
                        have hfr : ι (.l q) = [] := hf.2 q (by simp)
                        obtain ⟨news, n1, n2, n3, _⟩ := hr hp1 E ι h w vx tx e' hkx hD hx
                        have hvd := (rel_val hd).1
                        subst hvd
                        obtain ⟨s1, s2⟩ := src_nil (P := P) (E := E) (w := w) (ag := (ty e).agg) (c := (ty e).size) (f := fun _ => .bot) hkt none 0
                        obtain ⟨r, w', loc, r1, r2, r3⟩ := app_core (P := P) hD (id := .l q) (.inr hfr) (rt := rt) g he ge hb.2 (len := 0) (cap := 0) (cp := 0) (n := n) (Nat.le_refl _) (olds := []) (by simp) s1 s2 n1 n2 n3 (.inl ⟨rfl, rfl⟩) (by simpa using hby) (by omega)
                        have hlen : (ι (.l q)).length = 0 := by rw [hfr]; rfl
                        rw [hlen] at r2 r3
                        have efun : (fun i => bif Nat.blt i 0 then AV.bot else f (i - 0)) = f := by
                          funext i
                          have : Nat.blt i 0 = false := by
                            cases hb0 : Nat.blt i 0 with
                            | false => rfl
                            | true => have := Nat.blt_eq.mp hb0; omega
                          rw [this]; rfl
                        rw [Nat.zero_add] at r2 r3
                        rw [Nat.zero_max] at r3
                        rw [efun] at r2
                        refine ⟨r, w', _, r1, ins_le (.inr ⟨_, rfl⟩), by rw [hp_cons]; exact r2, r3, ⟨(List.nodup_cons.1 hf.1).2, fun i hi => ?_⟩, fun i => ins_ne (by simp), fun j => ins_ne (by simp)⟩
                        rw [ins_ne (by
                          intro e1
                          cases e1
                          exact (List.nodup_cons.1 hf.1).1 hi)]
                        exact hf.2 i (by simp [hi])
                      · exact .inl rfl
                    · exact .inl rfl
                  · exact .inl rfl
                · exact .inl rfl
              · exact .inl rfl
            · exact .inl rfl
      · exact .inl rfl
    · exact .inl rfl
end Go.AM
set_option linter.unusedVariables false
set_option linter.unusedSimpArgs false
namespace Go.AM
variable {P : Program}
theorem zc_get (z : Array Value) (n m : Nat) (hm : m < n * z.size) : (Builtin.zeroCells z n).getD m undef = z.getD (m % z.size) undef := by
  have hlt : m % z.size < z.size := Nat.mod_lt _ (Nat.pos_of_ne_zero fun e => by rw [e] at hm; simp at hm)
  rw [Builtin.zeroCells, Array.getD_eq_getD_getElem?, Array.getElem?_map, Array.getElem?_range, if_pos hm]
  simp only [Option.map_some, Option.getD_some]
  rw [getElem!_pos z _ hlt]
  simp [hlt]
theorem zero_cells {ty : TypeId → TI} {e : TypeId} (ge : TyGood P e (ty e)) :
    (ofCells (ty e).agg (aggsV (ty e).zero)).cells.length = (ty e).size ∧ (ofCells (ty e).agg (aggsV (ty e).zero)).isAgg = (ty e).agg ∧ ∀ j, (ofCells (ty e).agg (aggsV (ty e).zero)).cells.getD j .bot = (aggsV (ty e).zero).getD j .bot := by
  cases hag : (ty e).agg with
  | true =>
    have : ofCells true (aggsV (ty e).zero) = .agg (aggsV (ty e).zero) := by unfold ofCells; rfl
    rw [this]
    exact ⟨by simp only [AV.cells]; rw [aggsV_length, ge.zsize], rfl, fun j => rfl⟩
  | false =>
    have h1 := ge.one hag
    have hl : (ty e).zero.length = 1 := by rw [ge.zsize, h1]
    obtain ⟨u, hu⟩ := List.length_eq_one_iff.1 hl
    rw [hu]
    exact ⟨by rw [h1]; rfl, rfl, fun j => rfl⟩
theorem run_clear (w : World) (t e ty : TypeId) (i : TypeInfo) (z : Value) (ht : P.underlying t = some (.slice e)) (hi : P.info? e = some i) (hz : i.zero = some z) (h1 : ∀ v ∈ z.cells.toList, v.oneCell' = true) (b o n c : Nat) (hn : 0 < n) {vs : Array Value} (hv : Cells w b vs) (hle : o + n * z.cells.size ≤ vs.size) :
    (Builtin.clear_ #[t] ty #[.slice (some ⟨b, o, none⟩) n c]).run P w = .ok (.tuple #[]) (w.setCells b o (Builtin.zeroCells z.cells n).toList) := by
  have hsz : (Builtin.zeroCells z.cells n).toList.length = n * z.cells.size := by simp [Builtin.zeroCells]
  have hone : ∀ v ∈ (Builtin.zeroCells z.cells n).toList, v.oneCell' = true := by
    intro v hv'
    obtain ⟨m, hm1, hm2⟩ := List.getElem_of_mem hv'
    have := zc_get z.cells n m (by rw [← hsz]; exact hm1)
    have hlt : m % z.cells.size < z.cells.size := Nat.mod_lt _ (Nat.pos_of_ne_zero fun e => by rw [hsz, e] at hm1; simp at hm1)
    have e1 : (Builtin.zeroCells z.cells n).getD m undef = v := by
      have : m < (Builtin.zeroCells z.cells n).size := by simpa using hm1
      simp [this, ← hm2]
    rw [e1] at this
    rw [this]
    refine h1 _ ?_
    simp [hlt]
  have hst := run_storeCells_cells (P := P) b o (Builtin.zeroCells z.cells n).toList 0 w (fun j hj => by rw [Nat.add_zero, hv.cell (by omega)]; rfl) (fun j hj => by rw [Nat.add_zero]; exact hv.frozen (by omega)) hone
  simp only [Nat.add_zero] at hst
  obtain ⟨m, rfl⟩ : ∃ m, n = m + 1 := ⟨n - 1, by omega⟩
  simp [Builtin.clear_, run_underlying ht, zeroValue, typeInfo, hi, hz, hst]
theorem clearK_sound {α : Type} {ty : TypeId → TI} (hty : TyOk P ty) (L : Lh) (t : TypeId) (x : AV) (s : α) (k : Prop → Lh → α) :
    clearK ty L t x s k = s ∨ ∃ C L', clearK ty L t x s k = k C L' ∧ (C → ∀ (E : Env) (ι : Io) (h : Hp) (w : World) (vx : Value) (rt : TypeId), Den E ι (hp h L) w → Rel E ι x vx → ∃ w', (Builtin.clear_ #[t] rt #[vx]).run P w = .ok (.tuple #[]) w' ∧ Den E ι (hp h L') w') := by
  unfold clearK
  split
  · exact .inl rfl
  · rename_i hk
    split
    · rename_i e he
      split
      · exact .inl rfl
      · rename_i hb
        simp only [Bool.and_eq_true, Nat.ble_eq] at hb
        obtain ⟨⟨b1, b2⟩, b3⟩ := hb
        split
        · rename_i id g c off len cp
          split
          · rename_i q
            rw [getBK_eq]
            split
            · rename_i b hbq
              split
              · exact .inl rfl
              · rename_i ag g' c' m f
                split
                · exact .inl rfl
                · rename_i hcond
                  simp only [Bool.and_eq_true, Nat.beq_eq, beq_iff_eq] at hcond
                  obtain ⟨⟨rfl, rfl⟩, rfl⟩ := hcond
                  refine .inr ⟨_, _, rfl, fun hg E ι h w vx rt hD hx => ?_⟩
                  subst hg
                  have gt := hty t hk
                  have ge := hty e b1
                  obtain ⟨i, z, h1, h2, h3, h4, h5⟩ := ge.info
                  obtain ⟨z1, z2⟩ := zero_rel (E := E) (ι := ι) ge h5
                  have hzs : z.cells.size = (ty e).size := by rw [← z1, aggsV_length, ge.zsize]
                  have hzc := zero_cells (P := P) ge
                  have hones : ∀ j, j < (ty e).size → (z.cells.getD j undef).oneCell' = true ∧ RelF E ((aggsV (ty e).zero).getD j .bot) (z.cells.getD j undef) := by
                    intro j hj
                    have hj' : j < (aggsV (ty e).zero).length := by rw [aggsV_length, ge.zsize]; exact hj
                    have := z2 j hj'
                    exact ⟨may_one this (mays_get b3 j hj'), idFreeL_get _ _ hj' (idFree_aggsV _) this⟩
                  have hbq' : hp h L (.l q) = some (.arr (ty e).agg g' (ty e).size m f) := hbq
                  obtain ⟨loc, a, cap, hl, rfl, hr⟩ := rel_sl hx
                  obtain ⟨k0, loc', k1, k2, k3, k4⟩ := hD.ok (.l q) _ hbq'
                  rw [hl] at k2
                  cases k2
                  have hF : ∀ i, i < m → ((bif Nat.ble off i && Nat.blt i (off + len) then ofCells (ty e).agg (aggsV (ty e).zero) else f i) : AV).cells.length = (ty e).size ∧ ((bif Nat.ble off i && Nat.blt i (off + len) then ofCells (ty e).agg (aggsV (ty e).zero) else f i) : AV).isAgg = (ty e).agg := by
                    intro i hi
                    cases Nat.ble off i && Nat.blt i (off + len) with
                    | true => exact ⟨hzc.1, hzc.2.1⟩
                    | false => exact k0 i hi
                  by_cases hlen : len = 0
                  · subst hlen
                    have hcl : (Builtin.clear_ #[t] rt #[.slice a 0 cap]).run P w = .ok (.tuple #[]) w := by
                      cases a <;> simp [Builtin.clear_, run_underlying (desc_slice gt he)]
                    refine ⟨w, hcl, ?_⟩
                    rw [hp_cons]
                    refine hD.put hbq' (fun _ _ => rfl) rfl rfl rfl ⟨hF, loc, k1, hl, k3, fun hn => ?_⟩
                    obtain ⟨vs, c1, c2, c3, c4⟩ := k4 hn
                    refine ⟨vs, c1, c2, c3, fun i j hi hj => ?_⟩
                    have : (Nat.ble off i && Nat.blt i (off + 0)) = false := by
                      cases hb : Nat.ble off i && Nat.blt i (off + 0) with
                      | false => rfl
                      | true =>
                        simp only [Bool.and_eq_true, Nat.ble_eq] at hb
                        have := Nat.blt_eq.mp hb.2
                        omega
                    simp only [this, cond_false]
                    exact c4 i j hi hj
                  · rcases hr with ⟨rfl, _⟩ | ⟨hn, q1, q2, q3, rfl⟩
                    · exact absurd rfl hlen
                    · obtain ⟨vs, c1, c2, c3, c4⟩ := k4 hn
                      have hle : loc.base + off * (ty e).size + len * (ty e).size ≤ vs.size := by
                        have : len * (ty e).size ≤ cap * (ty e).size := Nat.mul_le_mul_right _ (Nat.le_trans q1 q2)
                        rw [Nat.add_mul] at q3
                        omega
                      have hrun := run_clear (P := P) w t e rt i z (desc_slice gt he) h1 h4 (fun v hv => by
                        obtain ⟨j, hj1, hj2⟩ := List.getElem_of_mem hv
                        have hj1' : j < z.cells.size := by simpa using hj1
                        have := (hones j (by omega)).1
                        have e1 : z.cells.getD j undef = v := by simp [hj1', ← hj2]
                        rwa [e1] at this) loc.blk (loc.base + off * (ty e).size) len cap (by omega) c1 (by rw [hzs]; exact hle)
                      refine ⟨_, hrun, ?_⟩
                      rw [hp_cons]
                      have pl : place ι (.l q) = some loc.blk := by
                        unfold place
                        rw [List.getLast?_eq_getElem?, k1]
                        simp [hl, hn]
                      have hzl : (Builtin.zeroCells z.cells len).toList.length = len * (ty e).size := by simp [Builtin.zeroCells, hzs]
                      refine hD.put hbq' (fun p hp' => heap_setCells_ne _ _ _ _ _ (fun e1 => hp' (by rw [pl, e1]))) (setCells_os _ _ _ _).1 (setCells_os _ _ _ _).2.1 (setCells_os _ _ _ _).2.2
                        ⟨hF, loc, k1, hl, k3, fun _ => ⟨putV vs (loc.base + off * (ty e).size) (Builtin.zeroCells z.cells len).toList, c1.set _ _, by rw [putV_size]; exact c2, c3, fun i j hi hj => ?_⟩⟩
                      rw [putV_get _ _ _ _ (by rw [hzl]; exact hle), hzl]
                      have hi1 : i * (ty e).size + (ty e).size ≤ m * (ty e).size := by
                        have : (i + 1) * (ty e).size ≤ m * (ty e).size := Nat.mul_le_mul_right _ hi
                        rw [Nat.add_mul, Nat.one_mul] at this
                        exact this
                      cases hb : Nat.ble off i && Nat.blt i (off + len) with
                      | true =>
                        simp only [Bool.and_eq_true, Nat.ble_eq] at hb
                        have hb2 := Nat.blt_eq.mp hb.2
                        obtain ⟨p, rfl⟩ := Nat.exists_eq_add_of_le hb.1
                        have hp1 : p * (ty e).size + (ty e).size ≤ len * (ty e).size := by
                          have : (p + 1) * (ty e).size ≤ len * (ty e).size := Nat.mul_le_mul_right _ (by omega)
                          rw [Nat.add_mul, Nat.one_mul] at this
                          exact this
                        rw [Nat.add_mul, if_pos (by omega), show loc.base + (off * (ty e).size + p * (ty e).size) + j - (loc.base + off * (ty e).size) = p * (ty e).size + j by omega]
                        have e2 : (Builtin.zeroCells z.cells len).toList.getD (p * (ty e).size + j) undef = (Builtin.zeroCells z.cells len).getD (p * (ty e).size + j) undef := by simp
                        rw [e2, zc_get _ _ _ (by rw [hzs]; omega), hzs, Nat.mul_add_mod_self_right, Nat.mod_eq_of_lt hj]
                        have hb' : (Nat.ble off (off + p) && Nat.blt (off + p) (off + len)) = true := by
                          rw [Nat.ble_eq.mpr hb.1, Nat.blt_eq.mpr hb2]; rfl
                        simp only [hb', cond_true, hzc.2.2 j]
                        exact hones j hj
                      | false =>
                        have hnot : ¬ (off ≤ i ∧ i < off + len) := fun ⟨x1, x2⟩ => by
                          rw [Nat.ble_eq.mpr x1, Nat.blt_eq.mpr x2] at hb
                          cases hb
                        rw [if_neg ?_]
                        · simp only [hb, cond_false]
                          exact c4 i j hi hj
                        · rintro ⟨a1, a2⟩
                          by_cases h : off ≤ i
                          · have : (off + len) * (ty e).size ≤ i * (ty e).size := Nat.mul_le_mul_right _ (by omega)
                            rw [Nat.add_mul] at this
                            omega
                          · have : (i + 1) * (ty e).size ≤ off * (ty e).size := Nat.mul_le_mul_right _ (by omega)
                            rw [Nat.add_mul, Nat.one_mul] at this
                            omega
            · exact .inl rfl
          · exact .inl rfl
        · exact .inl rfl
    · exact .inl rfl
theorem slice3K_sound {α : Type} {ty : TypeId → TI} (hty : TyOk P ty) (t : TypeId) (x lo hi mx : AV) (s : α) (k : Prop → AV → α) :
    slice3K ty t x lo hi mx s k = s ∨ ∃ c v, slice3K ty t x lo hi mx s k = k c v ∧ (c → ∀ (E : Env) (ι : Io) (w : World) (vx vlo vhi vmx : Value), Rel E ι x vx → Rel E ι lo vlo → Rel E ι hi vhi → Rel E ι mx vmx →
      ∃ r, (Instr.sliceAt t vx (some vlo) (some vhi) (some vmx)).run P w = .ok r w ∧ Rel E ι v r) := by
  unfold slice3K
  split
  · exact .inl rfl
  · rename_i hk
    split
    · rename_i e he
      split
      · exact .inl rfl
      · rename_i hke
        split
        · split
          · rename_i kl l
            split
            · split
              · rename_i kh hv
                split
                · split
                  · rename_i km m
                    have hrun : ∀ {E : Env} {ι : Io} {w : World} {a : Option Addr} {len cap : Nat} {vlo vhi vmx : Value}, (0 ≤ l ∧ l ≤ hv ∧ hv ≤ m ∧ m ≤ (cap : Int)) → Rel E ι (.val (.int kl l)) vlo → Rel E ι (.val (.int kh hv)) vhi → Rel E ι (.val (.int km m)) vmx →
                        (Instr.sliceAt t (.slice a len cap) (some vlo) (some vhi) (some vmx)).run P w = .ok (.slice (if m.toNat = l.toNat then a else a.map (·.add (l.toNat * (ty e).size))) (hv.toNat - l.toNat) (m.toNat - l.toNat)) w := by
                      intro E ι w a len cap vlo vhi vmx hc h1 h2 h3
                      rw [(rel_val h1).1, (rel_val h2).1, (rel_val h3).1]
                      have c1 : (0:Int) ≤ m ∧ m ≤ (cap:Int) := by omega
                      have c2 : (0:Int) ≤ hv ∧ hv ≤ ((m.toNat : Nat):Int) := by omega
                      have c3 : (0:Int) ≤ l ∧ l ≤ ((hv.toNat : Nat):Int) := by omega
                      have hb : (Instr.sliceBounds true len cap (some (.int kl l)) (some (.int kh hv)) (some (.int km m))).run P w = .ok (l.toNat, hv.toNat, m.toNat) w := by
                        simp only [Instr.sliceBounds, Instr.sliceBound, asIntOf, Sem.run_bind, Sem.run_pure, Result.andThen_ok, if_pos c1, if_pos c2, if_pos c3]
                      simp [Instr.sliceAt, Instr.slice, run_underlying (desc_slice (hty t hk) he), run_size (hty e hke), hb]
                    split
                    · rename_i ag c n f
                      split
                      · rename_i hb
                        rw [Nat.beq_eq] at hb
                        refine .inr ⟨_, _, rfl, fun hp E ι w vx vlo vhi vmx hx h1 h2 h3 => ?_⟩
                        obtain ⟨a, cap, rfl, hr⟩ := rel_vs hx
                        have hcap : n ≤ cap := by
                          rcases hr with rfl | ⟨_, _, _, _, _, hcap, _⟩
                          · exact Nat.zero_le _
                          · exact hcap
                        refine ⟨_, hrun (by omega) h1 h2 h3, ?_⟩
                        by_cases h0 : hv.toNat - l.toNat = 0
                        · rw [h0]; exact .F (.vs0 _ _ _ _ _)
                        · rcases hr with rfl | ⟨blk, o, vals, rfl, k1, _, ko, k2, k3, k4, k5⟩
                          · omega
                          · rw [if_neg (by omega), Option.map_some, add_addr, hb]
                            refine .F (.vs ag c _ _ blk (o + l.toNat * c) (m.toNat - l.toNat) (fun i j => vals (i + l.toNat) j) k1 (by omega) (fun i j hi hj => ko _ _ (by omega) hj) (fun i hi => k2 _ (by omega)) (fun i hi => k3 _ (by omega)) (fun i j hi hj => ?_) (fun i j hi hj => k5 _ _ (by omega) hj))
                            have := k4 (i + l.toNat) j (by omega) hj
                            rw [Nat.add_mul] at this
                            rw [show o + l.toNat * c + i * c + j = o + (i * c + l.toNat * c) + j by omega]
                            exact this
                      · exact .inl rfl
                    · rename_i id g c off n cp
                      split
                      · rename_i hb
                        rw [Nat.beq_eq] at hb
                        refine .inr ⟨_, _, rfl, fun hp E ι w vx vlo vhi vmx hx h1 h2 h3 => ?_⟩
                        obtain ⟨loc, a, cap, hl, rfl, hr⟩ := rel_sl hx
                        have hcap : cp ≤ cap := by
                          rcases hr with ⟨_, rfl, _⟩ | ⟨_, _, hcap, _⟩
                          · exact Nat.zero_le _
                          · exact hcap
                        refine ⟨_, hrun (by omega) h1 h2 h3, ?_⟩
                        by_cases h0 : m.toNat = l.toNat
                        · rw [if_pos h0, show hv.toNat - l.toNat = 0 by omega, show m.toNat - l.toNat = 0 by omega]
                          exact .sl0 _ _ _ _ loc a hl
                        · rcases hr with ⟨rfl, rfl, rfl⟩ | ⟨k1, k2, k2', k3, rfl⟩
                          · omega
                          · rw [if_neg h0, Option.map_some, add_addr, hb, show loc.base + off * c + l.toNat * c = loc.base + (off + l.toNat) * c by rw [Nat.add_mul]; omega]
                            refine .sl id g c (off + l.toNat) (hv.toNat - l.toNat) (m.toNat - l.toNat) (m.toNat - l.toNat) loc hl k1 (by omega) (Nat.le_refl _) ?_
                            have : (off + l.toNat + (m.toNat - l.toNat)) * c ≤ (off + cap) * c := Nat.mul_le_mul_right _ (by omega)
                            omega
                      · exact .inl rfl
                    · exact .inl rfl
                  · exact .inl rfl
                · exact .inl rfl
              · exact .inl rfl
            · exact .inl rfl
          · exact .inl rfl
        · exact .inl rfl
    · exact .inl rfl
theorem strK_sound {α : Type} {ty : TypeId → TI} (hty : TyOk P ty) (L : Lh) (src dst e : TypeId) (hsrc : P.underlying src = some (.slice e)) (hdst : P.underlying dst = some .string) (x : AV) (s : α) (k : Prop → AV → α) :
    strK ty L e x s k = s ∨ ∃ c v, strK ty L e x s k = k c v ∧ (c → ∀ (E : Env) (ι : Io) (h : Hp) (w : World) (vx : Value), Den E ι (hp h L) w → Rel E ι x vx → ∃ r, (convert src dst vx).run P w = .ok r w ∧ Rel E ι v r) := by
  unfold strK
  split
  · exact .inl rfl
  · rename_i hb
    simp only [Bool.and_eq_true, Nat.beq_eq, Bool.not_eq_true'] at hb
    obtain ⟨⟨b1, b2⟩, b3⟩ := hb
    have ge := hty e b1
    split
    · rename_i u hu
      have hint := desc_int ge hu
      split
      · refine (srcK_sound (P := P) (ty := ty) L e x s _ (by omega)).elim (fun h => .inl h) (fun ⟨p, n, f, h, hr⟩ => ?_)
        rw [h]
        refine .inr ⟨_, _, rfl, fun ⟨hp', hnum⟩ E ι h w vx hD hx => ?_⟩
        obtain ⟨news, n1, n2, n3, a, cap, rfl⟩ := hr hp' E ι h w vx src e hsrc hD hx
        rw [b2] at n1 n2 n3
        rw [Nat.mul_one] at n1
        have hnews : news = (numsOf n f).map (Value.int .u8) := by
          apply List.ext_getElem
          · simp [n1, numsOf]
          · intro i h1 h2
            obtain ⟨x, hx⟩ := hnum i (by omega)
            have := (n2.2 i 0 (by omega) (by omega)).2
            rw [hx] at this
            simp only [Nat.mul_one, Nat.add_zero] at this
            have e1 : news.getD i undef = news[i] := by simp [h1]
            rw [e1] at this
            have e2 : news[i] = .int .u8 x := (rel_val (.F (ι := ι) this)).1
            rw [e2]
            simp [numsOf, hx]
        refine ⟨.string (strOfNums (numsOf n f)), ?_, .F (.val _ rfl)⟩
        have hlen : (numsOf n f).length = n := by simp [numsOf]
        rw [run_convert_bytes_string w src dst e a n cap hsrc hint hdst]
        have hl : (Builtin.firstCells 1 n (.slice a n cap)).run P w = .ok ((numsOf n f).map (Value.int .u8)).toArray w := by rw [← hnews]; exact n3.cells
        cases a with
        | none =>
          simp only [Builtin.firstCells, Sem.run_pure, Result.ok.injEq] at hl
          have : numsOf n f = [] := by simpa using hl.1.symm
          rw [this]
          simp [Conv.bytesToString, strOfNums]
          rfl
        | some a =>
          simp only [Builtin.firstCells, Nat.mul_one] at hl
          rw [run_bytesToString w a n cap _ hl, foldl_push_bytes]
          simp [strOfNums, ByteArray.empty, ByteArray.emptyWithCapacity]
          rfl
      · exact .inl rfl
    · exact .inl rfl
theorem bytesK_sound {α : Type} {ty : TypeId → TI} (hty : TyOk P ty) (T : Tm) (L : Lh) (fr : List Nat) (o : Oper) (src dst e : TypeId) (x : Operand) (ho : o.op = .convert src dst x) (hsrc : P.underlying src = some .string) (hdst : P.underlying dst = some (.slice e)) (b : ByteArray) (hx : ev T x = some (.val (.string b))) (s : α) (k : AV → Lh → List Nat → Prop → α) :
    bytesK ty L fr e b s k = s ∨ ∃ v L' fr' C, bytesK ty L fr e b s k = k v L' fr' C ∧ (C → StepGood P ty T L fr o v L' fr') := by
  unfold bytesK
  split
  · exact .inl rfl
  · rename_i hb
    simp only [Bool.and_eq_true, Nat.beq_eq, Bool.not_eq_true'] at hb
    obtain ⟨⟨b1, b2⟩, b3⟩ := hb
    have ge := hty e b1
    split
    · rename_i u hu
      have hint := desc_int ge hu
      split
      · split
        · rename_i n fr
          refine .inr ⟨_, _, _, _, rfl, fun _ E ι hh w a hT hD hf => ?_⟩
          have hv := (rel_val (ev_rel hT hx)).1
          have hrun := run_bytes_of_string (P := P) w src dst e b hsrc hdst hint
          generalize hcp : grownCap w b.size 0 e = cn at hrun
          have hge : b.size ≤ cn := by rw [← hcp]; exact grownCap_ge w _ _ _
          have hsz : (bytesRow b cn).size = cn := by
            simp only [bytesRow, Array.size_append, Array.size_map, Array.size_replicate]
            have : b.data.size = b.size := rfl
            omega
          have hfr : ι (.l n) = [] := hf.2 n (by simp)
          have hD0 : Den E ι (hp hh L) w.drew := hD.drew _
          refine ⟨_, _, ins ι (.l n) [⟨w.heap.size, 0, (bytesRow b cn).size, false⟩], .inl (by simp only [execOp, ho, hv]; rw [Sem.run_bind, hrun]; rfl), ins_le (.inl hfr), ?_, ?_, ⟨(List.nodup_cons.1 hf.1).2, fun m hm => ?_⟩, fun i => ins_ne (by simp), fun j => ins_ne (by simp)⟩
          · rw [hp_cons]
            refine hD0.new hfr _ e _ ⟨w.heap.size, 0, (bytesRow b cn).size, false⟩ rfl rfl _ ⟨fun i hi => ⟨rfl, rfl⟩, ⟨w.heap.size, 0, (bytesRow b cn).size, false⟩, by rw [ins_same]; rfl, by rw [ins_same]; rfl, fun h => (by cases h), fun _ => ⟨bytesRow b cn, ⟨e, ((bytesRow b cn).size, (bytesRow b cn).size + 1), ?_, fun i hi => by simp only; omega⟩, rfl, by simp only; omega, fun i j hi hj => ?_⟩⟩
            · show (w.heap.push _)[w.heap.size]? = _
              simp
            · have hj0 : j = 0 := by omega
              subst hj0
              have hi' : i < b.data.size := hi
              have : (bytesRow b cn).getD (0 + i * 1 + 0) undef = .int .u8 ((b.data.getD i 0).toNat : Int) := by
                simp only [Nat.zero_add, Nat.mul_one, Nat.add_zero, bytesRow]
                rw [Array.getD_eq_getD_getElem?, Array.getElem?_append_left (by simpa using hi'), Array.getElem?_map, Array.getElem?_eq_getElem hi', Array.getD_eq_getD_getElem?, Array.getElem?_eq_getElem hi']
                rfl
              rw [this]
              exact ⟨rfl, .val _ rfl⟩
          · have := Rel.sl (E := E) (ι := ins ι (.l n) [⟨w.heap.size, 0, (bytesRow b cn).size, false⟩]) (.l n) 0 1 0 b.size b.size cn ⟨w.heap.size, 0, (bytesRow b cn).size, false⟩ (by rw [ins_same]; rfl) rfl (Nat.le_refl _) hge (by simp [hsz])
            simpa using this
          · rw [ins_ne (by
              intro e
              cases e
              exact (List.nodup_cons.1 hf.1).1 hm)]
            exact hf.2 m (by simp [hm])
        · exact .inl rfl
      · exact .inl rfl
    · exact .inl rfl
theorem allocK_sound {α : Type} {ty : TypeId → TI} (hty : TyOk P ty) (T : Tm) (L : Lh) (fr : List Nat) (o : Oper) (e : TypeId) (ho : o.op = .alloc e) (s : α) (k : AV → Lh → List Nat → Prop → α) :
    allocK ty L fr e s k = s ∨ ∃ v L' fr' C, allocK ty L fr e s k = k v L' fr' C ∧ (C → StepGood P ty T L fr o v L' fr') := by
  unfold allocK
  split
  · exact .inl rfl
  · rename_i hk
    split
    · exact .inl rfl
    · rename_i n fr
      have g := hty e hk
      obtain ⟨i, z, h1, h2, h3, h4, h5⟩ := g.info
      have hrun : ∀ (a : Act) (w : World), (execOp a.eval o).run P w = .ok (.value (.pointer (some ⟨w.heap.size, 0, none⟩))) { w with heap := w.heap.push (.cells z.cells e (0, 0)) } := fun a w => by
        simp [execOp, ho, Instr.alloc, zeroValue, typeInfo, h1, h4, newVar, newRow]
      split
      · rename_i m u hd
        split
        · rename_i hb
          simp only [Bool.and_eq_true, Nat.beq_eq, Bool.not_eq_true'] at hb
          obtain ⟨⟨⟨⟨b1, b2⟩, b3⟩, b4⟩, b5⟩ := hb
          refine .inr ⟨_, _, _, _, rfl, fun _ E ι hh w a hT hD hf => ?_⟩
          obtain ⟨z1, z2⟩ := zero_rel (E := E) (ι := ι) g h5
          have hl : (aggsV (ty e).zero).length = m := by rw [aggsV_length, g.zsize, b4]
          have hfr : ι (.l n) = [] := hf.2 n (by simp)
          refine ⟨_, _, ins ι (.l n) [⟨w.heap.size, 0, z.cells.size, false⟩], .inl (hrun a w), ins_le (.inl hfr), ?_, ?_, ⟨(List.nodup_cons.1 hf.1).2, fun q hq => ?_⟩, fun i => ins_ne (by simp), fun j => ins_ne (by simp)⟩
          · rw [hp_cons]
            refine hD.newRow hfr z.cells e ⟨fun i hi => ?_, fun i j hi hj => ?_⟩ (by rw [Nat.mul_one, ← hl, z1]; exact Nat.le_refl _)
            · have hi' : i < (ty e).zero.length := by rw [g.zsize, b4]; exact hi
              simp only
              rw [aggsV_get _ _ hi']
              exact ⟨rfl, rfl⟩
            · have hj0 : j = 0 := by omega
              subst hj0
              simp only [Nat.mul_one, Nat.add_zero]
              have hi' : i < (aggsV (ty e).zero).length := by rw [hl]; exact hi
              have := z2 i hi'
              have hi2 : i < (ty e).zero.length := by rw [g.zsize, b4]; exact hi
              refine ⟨may_one this (mays_get b5 i hi'), ?_⟩
              have e1 : ((aggsV (ty e).zero).getD i .bot).cells.getD 0 .bot = (aggsV (ty e).zero).getD i .bot := by
                rw [aggsV_get _ _ hi2]; rfl
              rw [e1]
              exact idFreeL_get _ _ hi' (idFree_aggsV _) this
          · have := Rel.eptr (E := E) (ι := ins ι (.l n) [⟨w.heap.size, 0, z.cells.size, false⟩]) (.l n) 0 1 0 0 ⟨w.heap.size, 0, z.cells.size, false⟩ (by rw [ins_same]; rfl) rfl
            simpa using this
          · rw [ins_ne (by
              intro e
              cases e
              exact (List.nodup_cons.1 hf.1).1 hq)]
            exact hf.2 q (by simp [hq])
        · exact .inl rfl
      · refine .inr ⟨_, _, _, _, rfl, fun _ => .new fun E ι hh w a hT hD => ?_⟩
        obtain ⟨z1, z2⟩ := zero_rel (E := E) (ι := ι) g h5
        exact ⟨z.cells, e, hrun a w, z1, z2⟩
end Go.AM
set_option linter.unusedVariables false
set_option linter.unusedSimpArgs false
namespace Go.AM
variable {P : Program}
theorem fill_rel {E : Env} {ι : Io} {ty : TypeId → TI} {fs : List (Nat × TypeId)} {n : Nat} (pl : Nat → Option (Nat × Nat)) (hpl : ∀ j o u, fs[j]? = some (o, u) → pl j = some (o, (ty u).size)) :
    ∀ (ps : List (Nat × AV)) (qs : List (Nat × Value)) (cs : List AV) (vs : Array Value), fillOk ty fs n ps = true → ps.length = qs.length → (∀ i, i < ps.length → ((ps.getD i (0, .bot)).1 = (qs.getD i (0, undef)).1 ∧ Rel E ι (ps.getD i (0, .bot)).2 (qs.getD i (0, undef)).2)) →
      cs.length = n → vs.size = n → (∀ i, i < n → Rel E ι (cs.getD i .bot) (vs.getD i undef)) → ∃ vs', Instr.fill pl vs qs = some vs' ∧ (fillA fs cs ps).length = n ∧ vs'.size = n ∧ ∀ i, i < n → Rel E ι ((fillA fs cs ps).getD i .bot) (vs'.getD i undef) := by
  intro ps
  induction ps with
  | nil =>
    intro qs cs vs _ hl _ hc hv hr
    have : qs = [] := by simpa using hl.symm
    subst this
    exact ⟨vs, rfl, hc, hv, hr⟩
  | cons p ps ih =>
    intro qs cs vs hf hl hp hc hv hr
    match qs, hl with
    | q :: qs, hl =>
      obtain ⟨j, a⟩ := p
      obtain ⟨j', v⟩ := q
      have h0 := hp 0 (by simp)
      simp only [List.getD_cons_zero] at h0
      obtain ⟨e, h0⟩ := h0
      subst e
      simp only [fillOk] at hf
      split at hf
      · rename_i o u hj
        simp only [Bool.and_eq_true, Nat.beq_eq, Nat.ble_eq, Bool.not_eq_true'] at hf
        obtain ⟨⟨⟨⟨f1, f2⟩, f3⟩, hb⟩, f4⟩ := hf
        obtain ⟨c1, c2⟩ := h0.cells hb
        have hrest : ∀ i, i < ps.length → ((ps.getD i (0, .bot)).1 = (qs.getD i (0, undef)).1 ∧ Rel E ι (ps.getD i (0, .bot)).2 (qs.getD i (0, undef)).2) := fun i hi => by
          have := hp (i + 1) (by simpa using hi)
          simpa using this
        have := ih qs (putCells cs o a.cells) (putV vs o v.cells.toList) f4 (by simpa using hl) hrest (by rw [putCells_length, hc]) (by rw [putV_size, hv]) (fun i hi => by
          rw [putCells_get _ _ _ _ (by omega), putV_get _ _ _ _ (by simp; omega)]
          simp only [Array.length_toList, c1]
          split
          · have := c2 (i - o) (by omega)
            simpa using this
          · exact hr i hi)
        obtain ⟨vs', r1, r2, r3, r4⟩ := this
        refine ⟨vs', ?_, by rw [fillA, hj]; exact r2, r3, by rw [fillA, hj]; exact r4⟩
        simp only [Instr.fill, hpl j o u hj]
        rw [if_neg (by simp; omega), ← r1]
        congr 1
        rw [← Array.foldl_toList, Array.toList_zipIdx]
        exact zipIdx_put o v.cells.toList vs 0
      · cases hf
theorem mapM_places {ty : TypeId → TI} (hty : TyOk P ty) : ∀ (l : List Field), (∀ f ∈ l, (ty f.type).known = true) → l.mapM (fun f => (P.info? f.type).map fun i => (f.offset, i.size)) = some (l.map fun f => (f.offset, (ty f.type).size)) := by
  intro l
  induction l with
  | nil => intro _; rfl
  | cons f l ih =>
    intro h
    obtain ⟨i, z, h1, h2, _⟩ := (hty f.type (h f (by simp))).info
    rw [List.mapM_cons, ih (fun g hg => h g (by simp [hg]))]
    simp [h1, h2]
theorem optK_eq {α : Type} (T : Tm) (x : Option Operand) (s : α) (k : Option AV → α) : optK T x s k = s ∨ ∃ v, optK T x s k = k v ∧ ∀ (E : Env) (ι : Io) (a : Act), TOk E ι T a.tmps → (∀ u, v = some u → ∃ r, x.map a.eval = some r ∧ Rel E ι u r) ∧ (v = none → x.map a.eval = none) := by
  cases x with
  | none => exact .inr ⟨none, rfl, fun E ι a _ => ⟨fun u h => (by cases h), fun _ => rfl⟩⟩
  | some x =>
    simp only [optK, evK_eq]
    split
    · rename_i v hv
      exact .inr ⟨some v, rfl, fun E ι a hT => ⟨fun u h => by cases h; exact ⟨_, rfl, ev_rel hT hv⟩, fun h => by cases h⟩⟩
    · exact .inl rfl
theorem cons_getD {vs : List AV} {i : Nat} {v : AV} (h : vs[i]? = some v) : vs.getD i .bot = v ∧ i < vs.length := by
  obtain ⟨h1, h2⟩ := List.getElem?_eq_some_iff.1 h
  simp [h1, h2]
set_option maxHeartbeats 4000000 in
theorem stepK_sound3 {α : Type} {ty : TypeId → TI} (hty : TyOk P ty) (T : Tm) (L : Lh) (fr : List Nat) (o : Oper) (s : α) (k : AV → Lh → List Nat → Prop → α) :
    stepK ty T L fr o.op s k = s ∨ (∃ v C, stepK ty T L fr o.op s k = k v L fr C ∧ (C → PureGood P T L o v)) ∨ (quietOp ty o.op = false ∧ ∃ v L' fr' C, stepK ty T L fr o.op s k = k v L' fr' C ∧ (C → StepGood P ty T L fr o v L' fr')) := by
  unfold stepK
  split
  · -- move
    rename_i x ho
    rw [evK_eq]
    split
    · rename_i v hv
      exact .inr (.inl ⟨_, _, rfl, fun _ E ι hh w a hT hD => ⟨a.eval x, by simp [execOp, ho], ev_rel hT hv⟩⟩)
    · exact .inl rfl
  · rename_i x ho
    rw [evK_eq]
    split
    · rename_i v hv
      exact .inr (.inl ⟨_, _, rfl, fun _ E ι hh w a hT hD => ⟨a.eval x, by simp [execOp, ho], ev_rel hT hv⟩⟩)
    · exact .inl rfl
  · -- pick
    rename_i c x y ho
    rw [evK_eq]
    split
    · rename_i vc hc
      split
      · split
        · split
          · rw [evK_eq]
            split
            · rename_i v hv
              refine .inr (.inl ⟨_, _, rfl, fun _ E ι hh w a hT hD => ⟨a.eval x, ?_, ev_rel hT hv⟩⟩)
              have := (rel_val (ev_rel hT hc)).1
              simp [execOp, ho, this, asBool]
            · exact .inl rfl
          · rw [evK_eq]
            split
            · rename_i v hv
              refine .inr (.inl ⟨_, _, rfl, fun _ E ι hh w a hT hD => ⟨a.eval y, ?_, ev_rel hT hv⟩⟩)
              have := (rel_val (ev_rel hT hc)).1
              simp [execOp, ho, this, asBool]
            · exact .inl rfl
        · exact .inl rfl
      · exact .inl rfl
    · exact .inl rfl
  · -- alloc
    rename_i e ho
    rcases allocK_sound (P := P) hty T L fr o e ho s k with h | ⟨v, L', fr', C, h, g⟩
    · exact .inl h
    · exact .inr (.inr ⟨by rw [ho]; rfl, v, L', fr', C, h, g⟩)
  · -- box
    rename_i e x ho
    split
    · rename_i n fr
      rw [evK_eq]
      split
      · rename_i v hv
        split
        · rename_i hb
          refine .inr (.inr ⟨by rw [ho]; rfl, _, _, _, _, rfl, fun _ => .new fun E ι hh w a hT hD => ?_⟩)
          obtain ⟨c1, c2⟩ := (ev_rel hT hv).cells hb
          exact ⟨(a.eval x).cells, e, by simp [execOp, ho, Instr.box, newVar, newRow], c1, c2⟩
        · exact .inl rfl
      · exact .inl rfl
    · exact .inl rfl
  · -- load
    rename_i t x ho
    rw [evK_eq]
    split
    · rename_i p hp'
      rcases loadE_sound hty L t p (loadK ty L t p s fun v => k v L fr True) (fun c v => k v L fr c) with h | ⟨c, v, h, hr⟩
      · rw [h]
        rcases loadK_sound hty L t p s (fun v => k v L fr True) with h | ⟨v, h, hr⟩
        · exact .inl h
        · refine .inr (.inl ⟨_, _, h, fun _ E ι hh w a hT hD => ?_⟩)
          obtain ⟨r, r1, r2⟩ := hr E ι hh w _ hD (ev_rel hT hp')
          exact ⟨r, by simp [execOp, ho, r1], r2⟩
      · refine .inr (.inl ⟨_, _, h, fun hc E ι hh w a hT hD => ?_⟩)
        obtain ⟨r, r1, r2⟩ := hr hc E ι hh w _ hD (ev_rel hT hp')
        exact ⟨r, by simp [execOp, ho, r1], r2⟩
    · exact .inl rfl
  · -- store
    rename_i t x y ho
    rw [evK_eq]
    split
    · rename_i p hp'
      rw [evK_eq]
      split
      · rename_i v hv
        rcases storeE_sound hty L t v p (storeK ty L t v p s fun L => k aundef L fr True) (fun c L => k aundef L fr c) with h | ⟨c, L', h, hr⟩
        · rw [h]
          rcases storeK_sound hty L t v p s (fun L => k aundef L fr True) with h | ⟨L', h, hr⟩
          · exact .inl h
          · refine .inr (.inr ⟨by rw [ho]; rfl, _, _, _, _, h, fun _ E ι hh w a hT hD hf => ?_⟩)
            obtain ⟨w', r1, r2⟩ := hr E ι hh w _ _ hD (ev_rel hT hp') (ev_rel hT hv)
            exact ⟨undef, w', ι, .inr ⟨by simp [execOp, ho, r1], rfl⟩, Io.le.refl ι, r2, .F (.val _ rfl), hf, fun _ => rfl, fun _ => rfl⟩
        · refine .inr (.inr ⟨by rw [ho]; rfl, _, _, _, _, h, fun hc E ι hh w a hT hD hf => ?_⟩)
          obtain ⟨w', r1, r2⟩ := hr hc E ι hh w _ _ hD (ev_rel hT hp') (ev_rel hT hv)
          exact ⟨undef, w', ι, .inr ⟨by simp [execOp, ho, r1], rfl⟩, Io.le.refl ι, r2, .F (.val _ rfl), hf, fun _ => rfl, fun _ => rfl⟩
      · exact .inl rfl
    · exact .inl rfl
  · -- binOp
    rename_i op t x y u ho
    rw [evK_eq]
    split
    · rename_i va ha
      rw [evK_eq]
      split
      · rename_i vb hb
        rcases binK_sound hty op t va vb s (fun c v => k v L fr c) with h | ⟨c, v, h, hr⟩
        · exact .inl h
        · refine .inr (.inl ⟨_, _, h, fun hc E ι hh w a hT hD => ?_⟩)
          obtain ⟨r, r1, r2⟩ := hr hc E ι w x y _ _ (ev_rel hT ha) (ev_rel hT hb)
          exact ⟨r, by simp only [execOp, ho]; rw [Sem.run_bind, r1]; rfl, r2⟩
      · exact .inl rfl
    · exact .inl rfl
  · -- unOp
    rename_i op t x ho
    rw [evK_eq]
    split
    · rename_i va ha
      split
      · split
        · split
          · refine .inr (.inl ⟨_, _, rfl, fun _ E ι hh w a hT hD => ?_⟩)
            have := (rel_val (ev_rel hT ha)).1
            exact ⟨_, by simp [execOp, ho, this, Op.unary], .F (.val _ rfl)⟩
          · exact .inl rfl
        · exact .inl rfl
      · split
        · split
          · refine .inr (.inl ⟨_, _, rfl, fun _ E ι hh w a hT hD => ?_⟩)
            have := (rel_val (ev_rel hT ha)).1
            exact ⟨_, by simp [execOp, ho, this, Op.unary, Op.intArith], .F (.val _ rfl)⟩
          · exact .inl rfl
        · exact .inl rfl
      · exact .inl rfl
    · exact .inl rfl
  · -- indexAddr
    rename_i t x i ho
    rw [evK_eq]
    split
    · rename_i vx hx
      rw [evK_eq]
      split
      · rename_i vi hi
        rcases indexK_sound hty t vx vi s (fun c v => k v L fr c) with h | ⟨c, v, h, hr⟩
        · exact .inl h
        · refine .inr (.inl ⟨_, _, h, fun hc E ι hh w a hT hD => ?_⟩)
          obtain ⟨r, r1, r2⟩ := hr hc E ι w _ _ (ev_rel hT hx) (ev_rel hT hi)
          exact ⟨r, by simp [execOp, ho, r1], r2⟩
      · exact .inl rfl
    · exact .inl rfl
  · -- slice
    rename_i t x lo hi mx ho
    split
    · rw [evK_eq]
      split
      · rename_i vx hx
        rcases optK_eq T lo s (fun lo => optK T hi s fun hi => sliceK ty t vx lo hi s fun c v => k v L fr c) with e | ⟨vlo, e, hlo⟩
        · exact .inl e
        · rw [e]
          rcases optK_eq T hi s (fun hi => sliceK ty t vx vlo hi s fun c v => k v L fr c) with e | ⟨vhi, e, hhi⟩
          · exact .inl e
          · rw [e]
            rcases sliceK_sound hty t vx vlo vhi s (fun c v => k v L fr c) with h | ⟨c, v, h, hr⟩
            · exact .inl h
            · refine .inr (.inl ⟨_, _, h, fun hc E ι hh w a hT hD => ?_⟩)
              obtain ⟨l1, l2⟩ := hlo E ι a hT
              obtain ⟨k1, k2⟩ := hhi E ι a hT
              obtain ⟨r, r1, r2⟩ := hr hc E ι w _ (lo.map a.eval) (hi.map a.eval) (ev_rel hT hx) l1 l2 k1 k2
              exact ⟨r, by simp [execOp, ho, r1], r2⟩
      · exact .inl rfl
    · rename_i mx
      split
      · rename_i lo
        split
        · rename_i hi
          rw [evK_eq]
          split
          · rename_i vx hx
            rw [evK_eq]
            split
            · rename_i vlo hlo
              rw [evK_eq]
              split
              · rename_i vhi hhi
                rw [evK_eq]
                split
                · rename_i vmx hmx
                  rcases slice3K_sound hty t vx vlo vhi vmx s (fun c v => k v L fr c) with h | ⟨c, v, h, hr⟩
                  · exact .inl h
                  · refine .inr (.inl ⟨_, _, h, fun hc E ι hh w a hT hD => ?_⟩)
                    obtain ⟨r, r1, r2⟩ := hr hc E ι w _ _ _ _ (ev_rel hT hx) (ev_rel hT hlo) (ev_rel hT hhi) (ev_rel hT hmx)
                    exact ⟨r, by simp [execOp, ho, r1], r2⟩
                · exact .inl rfl
              · exact .inl rfl
            · exact .inl rfl
          · exact .inl rfl
        · exact .inl rfl
      · exact .inl rfl
  · -- fieldAddr
    rename_i t x j ho
    rw [evK_eq]
    split
    · rename_i vx hx
      rcases fieldK_sound hty t vx j s (fun v => k v L fr True) with h | ⟨v, h, hr⟩
      · exact .inl h
      · refine .inr (.inl ⟨_, _, h, fun _ E ι hh w a hT hD => ?_⟩)
        obtain ⟨r, r1, r2⟩ := hr E ι w _ (ev_rel hT hx)
        exact ⟨r, by simp [execOp, ho, r1], r2⟩
    · exact .inl rfl
  · -- field
    rename_i t x j ho
    rw [evK_eq]
    split
    · rename_i vx hx
      rcases fieldOfK_sound hty t vx j s (fun v => k v L fr True) with h | ⟨v, h, hr⟩
      · exact .inl h
      · refine .inr (.inl ⟨_, _, h, fun _ E ι hh w a hT hD => ?_⟩)
        obtain ⟨r, r1, r2⟩ := hr E ι w _ (ev_rel hT hx)
        exact ⟨r, by simp [execOp, ho, r1], r2⟩
    · exact .inl rfl
  · -- extract
    rename_i x j ho
    rw [evK_eq]
    split
    · rename_i vx hx
      split
      · rename_i cs
        split
        · rename_i v hv
          refine .inr (.inl ⟨_, _, rfl, fun _ E ι hh w a hT hD => ?_⟩)
          obtain ⟨vs, e, hl, hr⟩ := rel_tup (ev_rel hT hx)
          obtain ⟨g1, g2⟩ := cons_getD hv
          have := hr j g2
          rw [g1] at this
          refine ⟨vs.getD j undef, ?_, this⟩
          simp [execOp, ho, e, Instr.extract, show j < vs.size by omega]
        · exact .inl rfl
      · exact .inl rfl
    · exact .inl rfl
  · -- makeFunc
    rename_i g first caps ho
    split
    · rename_i f
      split
      · rename_i hfirst
        rw [evsK_eq]
        split
        · rename_i vs hvs
          refine .inr (.inl ⟨_, _, rfl, fun _ E ι hh w a hT hD => ?_⟩)
          obtain ⟨h1, h2⟩ := evs_rel hT hvs
          have hf : first = #[] := by simpa using hfirst
          refine ⟨.func (.func f) #[] (caps.map a.eval), by simp [execOp, ho, hf, Instr.makeFunc], .fn f vs _ (by simp [h1]) fun i hi => ?_⟩
          have := h2 i hi
          simpa using this
        · exact .inl rfl
      · exact .inl rfl
    · exact .inl rfl
  · -- nilCheck
    rename_i x ho
    rw [evK_eq]
    split
    · rename_i vx hx
      split
      · refine .inr (.inl ⟨_, _, rfl, fun _ E ι hh w a hT hD => ⟨a.eval x, ?_, ev_rel hT hx⟩⟩)
        obtain ⟨loc, _, e⟩ := rel_ptr (ev_rel hT hx)
        simp [execOp, ho, e]
      · refine .inr (.inl ⟨_, _, rfl, fun _ E ι hh w a hT hD => ⟨a.eval x, ?_, ev_rel hT hx⟩⟩)
        obtain ⟨loc, _, _, e⟩ := rel_eptr (ev_rel hT hx)
        simp [execOp, ho, e]
      · refine .inr (.inl ⟨_, _, rfl, fun _ E ι hh w a hT hD => ⟨a.eval x, ?_, ev_rel hT hx⟩⟩)
        obtain ⟨_, _, _, e, _⟩ := rel_vp (ev_rel hT hx)
        simp [execOp, ho, e]
      · refine .inr (.inl ⟨_, _, rfl, fun _ E ι hh w a hT hD => ⟨a.eval x, ?_, ev_rel hT hx⟩⟩)
        obtain ⟨_, e, _⟩ := rel_fn (ev_rel hT hx)
        simp [execOp, ho, e]
      · exact .inl rfl
    · exact .inl rfl
  · -- convert
    rename_i src dst x ho
    rw [evK_eq]
    split
    · rename_i vx hx
      split
      · rename_i hk
        simp only [Bool.and_eq_true] at hk
        obtain ⟨d, d1, _, _⟩ := (hty src hk.1).desc
        split
        · rename_i e he
          split
          · rename_i hd
            rcases strK_sound hty L src dst e (desc_slice (hty src hk.1) he) (desc_string (hty dst hk.2) hd) vx s (fun c v => k v L fr c) with h | ⟨c, v, h, hr⟩
            · exact .inl h
            · refine .inr (.inl ⟨_, _, h, fun hc E ι hh w a hT hD => ?_⟩)
              obtain ⟨r, r1, r2⟩ := hr hc E ι hh w _ hD (ev_rel hT hx)
              exact ⟨r, by simp only [execOp, ho]; rw [Sem.run_bind, r1]; rfl, r2⟩
          · exact .inl rfl
        · rename_i hs
          split
          · split
            · rename_i b
              split
              · rename_i hd
                refine .inr (.inl ⟨_, _, rfl, fun _ E ι hh w a hT hD => ?_⟩)
                have e := (rel_val (ev_rel hT hx)).1
                refine ⟨_, ?_, .F (.val _ rfl)⟩
                simp only [execOp, ho, e, convert, Sem.run_bind, run_underlying d1, run_underlying (desc_string (hty dst hk.2) hd), Result.andThen_ok]
                cases d <;> rfl
              · rename_i e he
                rcases bytesK_sound (P := P) hty T L fr o src dst e x ho (desc_string (hty src hk.1) hs) (desc_slice (hty dst hk.2) he) b hx s k with h | ⟨v, L', fr', C, h, g⟩
                · exact .inl h
                · exact .inr (.inr ⟨by rw [ho]; simp only [quietOp, hs], v, L', fr', C, h, g⟩)
              · exact .inl rfl
            · exact .inl rfl
          · exact .inl rfl
        · split
          · split
            · split
              · rename_i hd
                refine .inr (.inl ⟨_, _, rfl, fun _ E ι hh w a hT hD => ?_⟩)
                have e := (rel_val (ev_rel hT hx)).1
                refine ⟨_, ?_, .F (.val _ rfl)⟩
                simp only [execOp, ho, e, convert, Sem.run_bind, run_underlying d1, run_underlying (desc_int (hty dst hk.2) hd), Result.andThen_ok]
                cases d <;> rfl
              · exact .inl rfl
            · exact .inl rfl
          · exact .inl rfl
      · exact .inl rfl
    · exact .inl rfl
  · -- build
    rename_i t ps ho
    split
    · rename_i hk
      split
      · rename_i fs hf
        refine (partsK_eq T ps.toList s _).elim (fun h => .inl h) (fun ⟨vs, h, hr⟩ => ?_)
        · rw [h]
          split
          · rename_i hb
            simp only [Bool.and_eq_true, List.all_eq_true] at hb
            refine .inr (.inl ⟨_, _, rfl, fun _ E ι hh w a hT hD => ?_⟩)
            have g := hty t hk
            obtain ⟨i, z, h1, h2, h3, h4, h5⟩ := g.info
            obtain ⟨z1, z2⟩ := zero_rel (E := E) (ι := ι) g h5
            obtain ⟨gs, g1, g2⟩ := desc_struct g hf
            obtain ⟨r1, r2⟩ := hr E ι a hT
            have hall : ∀ f ∈ gs.toList, (ty f.type).known = true := fun f hf' => hb.2 (f.offset, f.type) (by rw [g2]; exact List.mem_map.2 ⟨f, hf', rfl⟩)
            obtain ⟨vs', q1, q2, q3, q4⟩ := fill_rel (E := E) (ι := ι) (ty := ty) (fs := fs) (n := (ty t).zero.length) (fun j => ((gs.toList.map fun f => (f.offset, (ty f.type).size)).toArray)[j]?) (fun j o u hj => by
                obtain ⟨f, f1, f2, f3⟩ := field_at g2 hj
                subst f2 f3
                simp [f1]) vs (ps.toList.map fun p => (p.1, a.eval p.2)) (aggsV (ty t).zero) z.cells hb.1 (by simp [r1]) r2 (aggsV_length _) (by rw [← z1, aggsV_length]) (fun i hi => z2 i (by rw [aggsV_length]; exact hi))
            refine ⟨.agg vs', ?_, .agg _ _ (by rw [q2, q3]) (fun i hi => q4 i (by rw [q2] at hi; exact hi))⟩
            have hmap := mapM_places (P := P) hty gs.toList hall
            have hb2 : P.built t (ps.map fun (i, x) => (i, a.eval x)).toList = some vs' := by
              have e : (ps.map fun (i, x) => (i, a.eval x)).toList = ps.toList.map fun p => (p.1, a.eval p.2) := by simp
              rw [e]
              simp only [Program.built, h1, g1, h4, hmap]
              exact q1
            have := run_build (P := P) w t _ vs' hb2
            simp only [execOp, ho, Sem.run_bind, this]
            rfl
          · exact .inl rfl
      · exact .inl rfl
    · exact .inl rfl
  · -- buildSlice
    rename_i t len parts ho
    rcases bsK_sound (P := P) hty T L fr o t len parts ho s k with h | ⟨v, L', fr', C, h, g⟩
    · exact .inl h
    · exact .inr (.inr ⟨by rw [ho]; rfl, v, L', fr', C, h, g⟩)
  · -- call
    rename_i c ho
    split
    · rename_i b hcal
      split
      · split
        · rename_i t ts hts
          rw [evsK_eq]
          split
          · rename_i vs hvs
            split
            · rename_i x xs
              rcases lenK_sound hty t x s (fun v => k v L fr True) with h | ⟨v, h, hr⟩
              · exact .inl h
              · refine .inr (.inl ⟨_, _, h, fun _ E ι hh w a hT hD => ?_⟩)
                obtain ⟨h1, h2⟩ := evs_rel hT hvs
                have h20 := h2 0 (by simp)
                have hlen : 0 < c.args.size := by simp at h1; omega
                obtain ⟨q, q1, q2⟩ := hr E ι w ((c.args.map a.eval).getD 0 undef) c.argTypes (c.args.map a.eval) o.type (by
                  rw [← Array.getElem?_toList, hts]; rfl) (by simp [hlen]) (by simpa [hlen] using h20)
                refine ⟨q, ?_, q2⟩
                simp [execOp, ho, resolve, hcal, invoke, builtin, q1]
            · exact .inl rfl
          · exact .inl rfl
        · exact .inl rfl
      · split
        · rename_i t tx ts hts
          rw [evsK_eq]
          split
          · rename_i vs hvs
            split
            · rename_i d x
              rcases appK_sound (P := P) hty L fr t tx d x s k with h | ⟨v, L', fr', C, h, g⟩
              · exact .inl h
              · refine .inr (.inr ⟨by simp [ho, quietOp, hcal], v, L', fr', C, h, fun hC E ι hh w a hT hD hf => ?_⟩)
                obtain ⟨h1, h2⟩ := evs_rel hT hvs
                have h20 := h2 0 (by simp)
                have h21 := h2 1 (by simp)
                have hlen : c.args.size = 2 := by simpa using h1.symm
                have eargs : c.args.map a.eval = #[(c.args.map a.eval).getD 0 undef, (c.args.map a.eval).getD 1 undef] := by
                  apply Array.ext
                  · simp [hlen]
                  · intro i hi1 hi2
                    have : i = 0 ∨ i = 1 := by simp at hi2; omega
                    rcases this with rfl | rfl <;> simp [hlen]
                have hat : ∀ q, (Builtin.append_ c.argTypes o.type q).run P w = (Builtin.append_ #[t, tx] o.type q).run P w := by
                  intro q
                  have e0 : c.argTypes[0]? = some t := by rw [← Array.getElem?_toList, hts]; rfl
                  have e1 : c.argTypes[1]? = some tx := by rw [← Array.getElem?_toList, hts]; rfl
                  simp [Builtin.append_, e0, e1]
                obtain ⟨r, w', ι', r1, r2, r3, r4, r5, r6, r7⟩ := g hC E ι hh w ((c.args.map a.eval).getD 0 undef) ((c.args.map a.eval).getD 1 undef) o.type hD hf (by simpa using h20) (by simpa using h21)
                refine ⟨r, w', ι', .inl ?_, r2, r3, r4, r5, r6, r7⟩
                have hb2 : (Builtin.append_ c.argTypes o.type (c.args.map a.eval)).run P w = .ok r w' := by rw [hat, eargs]; exact r1
                simp [execOp, ho, resolve, hcal, invoke, builtin, hb2]
            · exact .inl rfl
          · exact .inl rfl
        · exact .inl rfl
      · split
        · rename_i t hts
          rw [evsK_eq]
          split
          · rename_i vs hvs
            split
            · rename_i x
              rcases clearK_sound (P := P) hty L t x s (fun c L => k aundef L fr c) with h | ⟨C, L', h, g⟩
              · exact .inl h
              · refine .inr (.inr ⟨by simp [ho, quietOp, hcal], _, _, _, _, h, fun hC E ι hh w a hT hD hf => ?_⟩)
                obtain ⟨h1, h2⟩ := evs_rel hT hvs
                have h20 := h2 0 (by simp)
                have hlen : c.args.size = 1 := by simpa using h1.symm
                have eargs : c.args.map a.eval = #[(c.args.map a.eval).getD 0 undef] := by
                  apply Array.ext
                  · simp [hlen]
                  · intro i hi1 hi2
                    have : i = 0 := by simp at hi2; omega
                    subst this
                    simp [hlen]
                have e0 : c.argTypes[0]? = some t := by rw [← Array.getElem?_toList, hts]; rfl
                obtain ⟨w', r1, r2⟩ := g hC E ι hh w ((c.args.map a.eval).getD 0 undef) o.type hD (by simpa using h20)
                have hb2 : (Builtin.clear_ c.argTypes o.type (c.args.map a.eval)).run P w = .ok (.tuple #[]) w' := by
                  have : (Builtin.clear_ c.argTypes o.type (c.args.map a.eval)).run P w = (Builtin.clear_ #[t] o.type (c.args.map a.eval)).run P w := by simp [Builtin.clear_, e0]
                  rw [this, eargs]; exact r1
                exact ⟨.tuple #[], w', ι, .inl (by simp [execOp, ho, resolve, hcal, invoke, builtin, hb2]), Io.le.refl ι, r2, .F (.val _ rfl), hf, fun _ => rfl, fun _ => rfl⟩
            · exact .inl rfl
          · exact .inl rfl
        · exact .inl rfl
      · rw [evsK_eq]
        split
        · rename_i vs hvs
          rcases minK_sound (P := P) false vs s (fun v => k v L fr True) with h | ⟨v, h, hr⟩
          · exact .inl h
          · refine .inr (.inl ⟨_, _, h, fun _ E ι hh w a hT hD => ?_⟩)
            obtain ⟨h1, h2⟩ := evs_rel hT hvs
            obtain ⟨q, q1, q2⟩ := hr E ι w (c.args.map a.eval) c.argTypes o.type (by simpa using h1) (fun i hi => by simpa using h2 i hi)
            refine ⟨q, ?_, q2⟩
            simp at q1
            simp [execOp, ho, resolve, hcal, invoke, builtin, q1]
        · exact .inl rfl
      · rw [evsK_eq]
        split
        · rename_i vs hvs
          rcases minK_sound (P := P) true vs s (fun v => k v L fr True) with h | ⟨v, h, hr⟩
          · exact .inl h
          · refine .inr (.inl ⟨_, _, h, fun _ E ι hh w a hT hD => ?_⟩)
            obtain ⟨h1, h2⟩ := evs_rel hT hvs
            obtain ⟨q, q1, q2⟩ := hr E ι w (c.args.map a.eval) c.argTypes o.type (by simpa using h1) (fun i hi => by simpa using h2 i hi)
            refine ⟨q, ?_, q2⟩
            simp at q1
            simp [execOp, ho, resolve, hcal, invoke, builtin, q1]
        · exact .inl rfl
      · exact .inl rfl
    · exact .inl rfl
  · exact .inl rfl
theorem stepK_sound {α : Type} {ty : TypeId → TI} (hty : TyOk P ty) (T : Tm) (L : Lh) (fr : List Nat) (o : Oper) (s : α) (k : AV → Lh → List Nat → Prop → α) :
    stepK ty T L fr o.op s k = s ∨ ∃ v L' fr' C, stepK ty T L fr o.op s k = k v L' fr' C ∧ (C → StepGood P ty T L fr o v L' fr') := by
  rcases stepK_sound3 hty T L fr o s k with h | ⟨v, C, h, g⟩ | ⟨_, h⟩
  · exact .inl h
  · exact .inr ⟨v, L, fr, C, h, fun c => .pure (g c)⟩
  · exact .inr h
end Go.AM
set_option linter.unusedVariables false
set_option linter.unusedSimpArgs false
namespace Go.AM
variable {P : Program}
def hpN (h : Hp) (N : List Blk) : Hp
  | .o i => (h i).map (Blk.ren .o)
  | .n j => N[j]?
  | .l _ => none
/-- names of blocks that are followed: where they lay at first -/
abbrev Trk := List (Nat × List Loc)
def Track (K : Trk) (ι : Io) : Prop := ∀ k p, (k, p) ∈ K → ∀ (g : Nat) (loc : Loc), p[g]? = some loc → (ι (.l k))[g]? = some loc
def TrackN (K : Trk) (ι : Io) : Prop := ∀ j k p, K[j]? = some (k, p) → ∀ (g : Nat) (loc : Loc), p[g]? = some loc → (ι (.n j))[g]? = some loc
theorem Track.mono {K : Trk} {ι ι' : Io} (h : Track K ι) (hι : Io.le ι ι') : Track K ι' := fun k p hk g loc hg => hι _ _ _ (h k p hk g loc hg)
theorem Track.nil (ι : Io) : Track [] ι := fun _ _ h => by cases h
/-- what a call hands back -/
def Post (E : Env) (ι : Io) (w' : World) (v : Value) (K : Trk) (Q : AV → Hp → List Blk → Prop) : Prop :=
  ∃ E' ι' r h' N, E.le E' ∧ (∀ (i : Id) (g : Nat) (loc : Loc), (ι (.o i))[g]? = some loc → (ι' (.o i))[g]? = some loc) ∧ (∀ i, ι (.o i) = [] → ι' (.o i) = []) ∧ (∀ k, ι' (.l k) = []) ∧ (∀ j, N.length ≤ j → ι' (.n j) = []) ∧ Den E' ι' (hpN h' N) w' ∧ Rel E' ι' r v ∧ Q r h' N ∧ TrackN K ι'
def FrOk (fr : List Nat) (ι : Io) : Prop := fr.Nodup ∧ ∀ n ∈ fr, ι (.l n) = []
/-- From here on the call comes to its end, and hands back what Q says. -/
def SemW (P : Program) (fid : FuncId) (fn : Func) (Kt : Trk) (Q : AV → Hp → List Blk → Prop) (h : Hp) (ks : List Item) (T : Tm) (L : Lh) (fr : List Nat) : Prop :=
  ∀ (E : Env) (ι : Io) (a : Act) (w : World) (b : Frame) (cs : List Frame), b.fn = fid → b.kind = .normal → a.defers = [] → a.tmps.size = fn.ntmps → TOk E ι T a.tmps → Den E ι (hp h L) w → FrOk fr ι → ((∀ j, ι (.n j) = []) ∧ Track Kt ι) →
    ∃ w' frm v, Steps P (lone (b.at a ks) cs w) (lone frm cs w') ∧ frm.fn = fid ∧ frm.leaving P w' (.returned v) ∧ Post E ι w' v Kt Q
def Holds (P : Program) (fid : FuncId) (fn : Func) (Kt : Trk) (Q : AV → Hp → List Blk → Prop) (h : Hp) (c : Cfg) : Prop := c.C ∧ SemW P fid fn Kt Q h c.ks c.T c.L c.fr
theorem Post.mono {E E' : Env} {ι ι' : Io} {w' : World} {v : Value} {K : Trk} {Q : AV → Hp → List Blk → Prop} (hE : E.le E') (hι : ∀ (i : Id) (g : Nat) (loc : Loc), (ι (.o i))[g]? = some loc → (ι' (.o i))[g]? = some loc) (hz : ∀ i, ι (.o i) = [] → ι' (.o i) = []) (h : Post E' ι' w' v K Q) : Post E ι w' v K Q := by
  obtain ⟨E2, ι2, r, h', N, h1, h2, h2', h3⟩ := h
  exact ⟨E2, ι2, r, h', N, hE.trans h1, fun i g l x => h2 i g l (hι i g l x), fun i x => h2' i (hz i x), h3⟩
section
variable {fid : FuncId} {fn : Func} {Kt : Trk} {Q : AV → Hp → List Blk → Prop} {h : Hp}
theorem SemW.step {ks ks' : List Item} {T : Tm} {L : Lh} {fr : List Nat} (hs : ∀ (b : Frame) (a : Act) (cs : List Frame) (w : World), step P (lone (b.at a ks) cs w) = .next (lone (b.at a ks') cs w)) (hh : SemW P fid fn Kt Q h ks' T L fr) : SemW P fid fn Kt Q h ks T L fr := by
  intro E ι a w b cs h1 h2 h3 h4 h5 h6 h7 h8
  obtain ⟨w', frm, v, s, r⟩ := hh E ι a w b cs h1 h2 h3 h4 h5 h6 h7 h8
  exact ⟨w', frm, v, .head (hs b a cs w) s, r⟩
theorem exitToL_eq (id : Nat) (s : Cfg) (k : List Item → Cfg) : ∀ ks, exitToL id s k ks = match exitTo id ks with | some ks' => k ks' | none => s := by
  intro ks
  induction ks with
  | nil => rfl
  | cons i ks ih =>
    cases i <;> try exact ih
    rename_i j
    simp only [exitToL, exitTo]
    have e : (j == id) = Nat.beq j id := by
      cases hb : Nat.beq j id with
      | true => rw [Nat.eq_of_beq_eq_true hb]; simp
      | false => simp; intro e; subst e; simp at hb
    rw [e]
    cases Nat.beq j id with
    | true => rfl
    | false => exact ih
theorem op_step {b : Frame} {a : Act} {k : List Item} {cs : List Frame} {w w' : World} {ops : Array Oper} {i : Nat} {is : List Nat} {o : Oper} {v : Value} (ho : ops[i]? = some o) (hw : Region.wanted o (yielded ops a.tmps) = true)
    (hr : (execOp a.eval o).run P w = .ok (.value v) w' ∨ ((execOp a.eval o).run P w = .ok .skip w' ∧ v = undef)) :
    Go.step P (lone (b.at a (.inRegion ops (i :: is) :: k)) cs w) = .next (lone (b.at (a.put o.dst v) (.inRegion ops is :: k)) cs w') := by
  have hg := stepG_op (P := P) (b := b) (k := k) (cs := cs) (w := w) (rest := is) ho hw
  have hfin : ∀ v, (b.at a (.inRegion ops (i :: is) :: k)).finish v = b.at (a.put o.dst v) (.inRegion ops is :: k) := by
    intro v; rw [Frame.finish_at, ho]; rfl
  refine step_lone_go ?_
  rcases hr with hr | ⟨hr, rfl⟩
  · rw [hg, ← hfin]; simp [stepG.apply, hr]
  · rw [hg, ← hfin]; simp [stepG.apply, hr]
theorem TOk.mono {E E' : Env} {ι ι' : Io} {T : Tm} {tmps : Array Value} (hT : TOk E ι T tmps) (hE : E.le E') (hι : Io.le ι ι') : TOk E' ι' T tmps := fun t => (hT t).mono hE hι
theorem TOk.put {E : Env} {ι : Io} {T : Tm} {a : Act} (hT : TOk E ι T a.tmps) {d : Nat} {v : AV} {r : Value} (hd : d < a.tmps.size) (hr : Rel E ι v r) : TOk E ι ((d, v) :: T) (a.put (some d) r).tmps := by
  intro t
  simp only [get, Act.put]
  cases ht : Nat.beq d t with
  | true =>
    have := Nat.eq_of_beq_eq_true ht
    subst this
    simpa [hd] using hr
  | false =>
    have hne : d ≠ t := fun e => by subst e; simp at ht
    simpa [Array.getElem?_setIfInBounds_ne hne] using hT t
/-- is operation o carried out? -/
theorem guardK_eq {α : Type} (ops : Array Oper) (T : Tm) (o : Oper) (s yes no : α) : guardK ops T o.guard s yes no = s ∨
    (guardK ops T o.guard s yes no = yes ∧ ∀ (E : Env) (ι : Io) (a : Act), TOk E ι T a.tmps → Region.wanted o (yielded ops a.tmps) = true) ∨
    (guardK ops T o.guard s yes no = no ∧ ∀ (E : Env) (ι : Io) (a : Act), TOk E ι T a.tmps → Region.wanted o (yielded ops a.tmps) = false) := by
  unfold guardK
  cases hg : o.guard with
  | none => exact .inr (.inl ⟨rfl, fun _ _ a _ => by simp [Region.wanted, hg]⟩)
  | some p =>
    obtain ⟨j, want⟩ := p
    dsimp only
    cases ho : ops[j]? with
    | none => exact .inl rfl
    | some o' =>
      dsimp only
      cases hd : o'.dst with
      | none => exact .inl rfl
      | some t =>
        dsimp only
        rw [getK_eq]
        cases hv : get T t with
        | val v =>
          dsimp only
          have key : ∀ {E : Env} {ι : Io} (a : Act), TOk E ι T a.tmps → a.tmps.getD t undef = v := fun a hT => (rel_val (hv ▸ hT t)).1
          have yl : ∀ {E : Env} {ι : Io} (a : Act), TOk E ι T a.tmps → yielded ops a.tmps j = match v with | .bool b => some b | _ => none := by
            intro E ι a hT
            have := key a hT
            unfold yielded
            simp only [ho, hd, Option.bind_some]
            cases hq : a.tmps[t]? with
            | none =>
              simp [hq] at this
              subst this
              rfl
            | some u =>
              simp [hq] at this
              subst this
              cases u <;> rfl
          cases v with
          | bool b =>
            dsimp only
            cases b <;> cases want
            · exact .inr (.inl ⟨rfl, fun _ _ a hT => by simp [Region.wanted, hg, yl a hT]⟩)
            · exact .inr (.inr ⟨rfl, fun _ _ a hT => by simp [Region.wanted, hg, yl a hT]⟩)
            · exact .inr (.inr ⟨rfl, fun _ _ a hT => by simp [Region.wanted, hg, yl a hT]⟩)
            · exact .inr (.inl ⟨rfl, fun _ _ a hT => by simp [Region.wanted, hg, yl a hT]⟩)
          | tuple vs => exact .inr (.inr ⟨rfl, fun _ _ a hT => by simp [Region.wanted, hg, yl a hT]⟩)
          | _ => exact .inl rfl
        | _ => exact .inl rfl
theorem SemW.op {ops : Array Oper} {i : Nat} {is : List Nat} {k : List Item} {o : Oper} {T : Tm} {L L' : Lh} {fr fr' : List Nat} {v : AV} {ty : TypeId → TI} (ho : ops[i]? = some o)
    (hw : ∀ (E : Env) (ι : Io) (a : Act), TOk E ι T a.tmps → Region.wanted o (yielded ops a.tmps) = true) (hg : StepGood P ty T L fr o v L' fr') (hd : ∀ d, o.dst = some d → d < fn.ntmps)
    (hh : SemW P fid fn Kt Q h (.inRegion ops is :: k) (setT T o.dst v) L' fr') : SemW P fid fn Kt Q h (.inRegion ops (i :: is) :: k) T L fr := by
  intro E ι a w b cs h1 h2 h3 h4 h5 h6 h7 h8
  obtain ⟨r, w1, ι1, s1, s2, s3, s4, s5, s6, s7⟩ := hg E ι h w a h5 h6 h7
  have hT : TOk E ι1 (setT T o.dst v) (a.put o.dst r).tmps := by
    have := h5.mono (Env.le.refl E) s2
    unfold setT
    cases hdd : o.dst with
    | none => exact this
    | some d => exact this.put (by rw [h4]; exact hd d hdd) s4
  obtain ⟨w', frm, u, t1, t2, t3, t4⟩ := hh E ι1 (a.put o.dst r) w1 b cs h1 h2 (by cases o.dst <;> exact h3) (by cases o.dst <;> simp [Act.put, h4]) hT s3 s5 ⟨fun j => by rw [s7, h8.1], h8.2.mono s2⟩
  exact ⟨w', frm, u, .head (op_step ho (hw E ι a h5) s1) t1, t2, t3, t4.mono (Env.le.refl E) (fun i g l x => by rw [s6]; exact x) (fun i x => by rw [s6]; exact x)⟩
theorem SemW.opNot {ops : Array Oper} {i : Nat} {is : List Nat} {k : List Item} {o : Oper} {T : Tm} {L : Lh} {fr : List Nat} (ho : ops[i]? = some o)
    (hw : ∀ (E : Env) (ι : Io) (a : Act), TOk E ι T a.tmps → Region.wanted o (yielded ops a.tmps) = false) (hd : ∀ d, o.dst = some d → d < fn.ntmps)
    (hh : SemW P fid fn Kt Q h (.inRegion ops is :: k) (setT T o.dst aundef) L fr) : SemW P fid fn Kt Q h (.inRegion ops (i :: is) :: k) T L fr := by
  intro E ι a w b cs h1 h2 h3 h4 h5 h6 h7 h8
  have hs := step_op_skip (P := P) (b := b) (a := a) (k := k) (cs := cs) (w := w) (ops := ops) (i := i) (rest := is) (by simp [ho, hw E ι a h5])
  simp only [ho, Option.bind_some] at hs
  have hT : TOk E ι (setT T o.dst aundef) (a.put o.dst undef).tmps := by
    unfold setT
    cases hdd : o.dst with
    | none => exact h5
    | some d => exact h5.put (by rw [h4]; exact hd d hdd) (.F (.val _ rfl))
  obtain ⟨w', frm, u, t1, t2, t3, t4⟩ := hh E ι (a.put o.dst undef) w b cs h1 h2 (by cases o.dst <;> exact h3) (by cases o.dst <;> simp [Act.put, h4]) hT h6 h7 h8
  exact ⟨w', frm, u, .head hs t1, t2, t3, t4⟩
set_option maxHeartbeats 2000000 in
theorem adv_sound {ty : TypeId → TI} (hty : TyOk P ty) : ∀ (n : Nat) (ks : List Item) (T : Tm) (L : Lh) (fr : List Nat) (C : Prop), Holds P fid fn Kt Q h (adv ty fn.ntmps n ks T L fr C) → C ∧ SemW P fid fn Kt Q h ks T L fr := by
  intro n
  induction n with
  | zero => intro ks T L fr C hh; exact hh
  | succ n ih =>
    intro ks T L fr C hh
    unfold adv at hh
    split at hh
    · exact hh
    · rename_i it rest
      split at hh
      · -- inBlock
        obtain ⟨c, s⟩ := ih _ _ _ _ _ hh
        exact ⟨c, s.step fun b a cs w => step_inBlock⟩
      · -- code
        split at hh
        · obtain ⟨c, s⟩ := ih _ _ _ _ _ hh
          exact ⟨c, s.step fun b a cs w => step_seq⟩
        · obtain ⟨c, s⟩ := ih _ _ _ _ _ hh
          exact ⟨c, s.step fun b a cs w => step_skip⟩
        · obtain ⟨c, s⟩ := ih _ _ _ _ _ hh
          exact ⟨c, s.step fun b a cs w => step_block⟩
        · rename_i id
          rw [exitToL_eq] at hh
          split at hh
          · rename_i ks' hk
            obtain ⟨c, s⟩ := ih _ _ _ _ _ hh
            exact ⟨c, s.step fun b a cs w => step_exit hk⟩
          · exact hh
        · rename_i id ops draw
          split at hh
          · obtain ⟨c, s⟩ := ih _ _ _ _ _ hh
            exact ⟨c, s.step fun b a cs w => step_region⟩
          · exact hh
        · exact hh
      · -- inRegion
        rename_i ops todo
        split at hh
        · obtain ⟨c, s⟩ := ih _ _ _ _ _ hh
          exact ⟨c, s.step fun b a cs w => step_region_end⟩
        · rename_i i is
          split at hh
          · exact hh
          · rename_i o ho
            rcases guardK_eq ops T o _ _ _ with e | ⟨e, hw⟩ | ⟨e, hw⟩
            · rw [e] at hh; exact hh
            · rw [e] at hh
              rcases stepK_sound hty T L fr o (Cfg.mk (.inRegion ops (i :: is) :: rest) T L fr C) _ with e2 | ⟨v, L', fr', c, e2, hg⟩
              · rw [e2] at hh; exact hh
              · rw [e2] at hh
                split at hh
                · rename_i hd
                  obtain ⟨c', s⟩ := ih _ _ _ _ _ hh
                  refine ⟨c'.2, SemW.op ho hw (hg c'.1) (fun d hd' => by rw [hd] at hd'; cases hd') ?_⟩
                  rw [hd]; exact s
                · rename_i d hd
                  split at hh
                  · rename_i hlt
                    have hlt' : d < fn.ntmps := Nat.blt_eq.mp hlt
                    split at hh
                    · obtain ⟨c', s⟩ := hh
                      refine ⟨c'.2, SemW.op ho hw (hg c'.1) (fun d' hd' => by rw [hd] at hd'; cases hd'; exact hlt') ?_⟩
                      rw [hd]; exact s
                    · obtain ⟨c', s⟩ := ih _ _ _ _ _ hh
                      refine ⟨c'.2, SemW.op ho hw (hg c'.1) (fun d' hd' => by rw [hd] at hd'; cases hd'; exact hlt') ?_⟩
                      rw [hd]; exact s
                  · exact hh
            · rw [e] at hh
              split at hh
              · rename_i hd
                obtain ⟨c', s⟩ := ih _ _ _ _ _ hh
                refine ⟨c', SemW.opNot ho hw (fun d hd' => by rw [hd] at hd'; cases hd') ?_⟩
                rw [hd]; exact s
              · rename_i d hd
                split at hh
                · rename_i hlt
                  obtain ⟨c', s⟩ := ih _ _ _ _ _ hh
                  refine ⟨c', SemW.opNot ho hw (fun d' hd' => by rw [hd] at hd'; cases hd'; exact Nat.blt_eq.mp hlt) ?_⟩
                  rw [hd]; exact s
                · exact hh
      · exact hh
end
end Go.AM
set_option linter.unusedVariables false
set_option linter.unusedSimpArgs false
namespace Go.AM
variable {P : Program}
theorem renL_length (f : Id → Id) : ∀ l, (renL f l).length = l.length
  | [] => rfl
  | _ :: l => by simp [renL, renL_length f l]
theorem renL_getD (f : Id → Id) : ∀ (l : List AV) (i : Nat), (renL f l).getD i .bot = (l.getD i .bot).ren f
  | [], i => by simp [renL, AV.ren]
  | a :: l, 0 => rfl
  | a :: l, i + 1 => by simpa [renL] using renL_getD f l i
theorem avoidL_getD (p : Nat → Bool) : ∀ (l : List AV) (i : Nat), avoidL p l = true → (l.getD i .bot).avoid p = true
  | [], i, _ => by simp [AV.avoid]
  | a :: l, 0, h => by simp only [avoidL, Bool.and_eq_true] at h; exact h.1
  | a :: l, i + 1, h => by simp only [avoidL, Bool.and_eq_true] at h; simpa using avoidL_getD p l i h.2
mutual
theorem AV.ren_ren (f g : Id → Id) : ∀ a : AV, (a.ren f).ren g = a.ren (fun i => g (f i))
  | .bot => rfl
  | .val _ => rfl
  | .agg cs => by simp only [AV.ren]; rw [renL_renL f g cs]
  | .tup cs => by simp only [AV.ren]; rw [renL_renL f g cs]
  | .fn _ cs => by simp only [AV.ren]; rw [renL_renL f g cs]
  | .ptr _ _ => rfl
  | .eptr _ _ _ _ _ => rfl
  | .vp _ _ _ _ => rfl
  | .sl _ _ _ _ _ _ => rfl
  | .vs _ _ _ _ => rfl
theorem renL_renL (f g : Id → Id) : ∀ l : List AV, renL g (renL f l) = renL (fun i => g (f i)) l
  | [] => rfl
  | a :: l => by simp only [renL]; rw [AV.ren_ren f g a, renL_renL f g l]
end
mutual
theorem AV.ren_id (f : Id → Id) (h : ∀ i, f i = i) : ∀ a : AV, a.ren f = a
  | .bot => rfl
  | .val _ => rfl
  | .agg cs => by simp only [AV.ren]; rw [renL_id f h cs]
  | .tup cs => by simp only [AV.ren]; rw [renL_id f h cs]
  | .fn _ cs => by simp only [AV.ren]; rw [renL_id f h cs]
  | .ptr _ _ => by simp [AV.ren, h]
  | .eptr _ _ _ _ _ => by simp [AV.ren, h]
  | .vp _ _ _ _ => rfl
  | .sl _ _ _ _ _ _ => by simp [AV.ren, h]
  | .vs _ _ _ _ => rfl
theorem renL_id (f : Id → Id) (h : ∀ i, f i = i) : ∀ l : List AV, renL f l = l
  | [] => rfl
  | a :: l => by simp only [renL]; rw [AV.ren_id f h a, renL_id f h l]
end
theorem Blk.ren_ren (f g : Id → Id) (b : Blk) : (b.ren f).ren g = b.ren (fun i => g (f i)) := by cases b <;> simp [Blk.ren, renL_renL]
theorem Blk.ren_id (f : Id → Id) (h : ∀ i, f i = i) (b : Blk) : b.ren f = b := by cases b <;> simp [Blk.ren, renL_id f h]
theorem RelF.ren {E : Env} {a : AV} {v : Value} (f : Id → Id) (h : RelF E a v) : RelF E (a.ren f) v := by
  induction h with
  | bot v => exact .bot v
  | val v h => exact .val v h
  | agg cs vs hl _ ih => exact .agg _ vs (by rw [renL_length]; exact hl) fun i hi => by rw [renL_getD]; exact ih i (by rw [renL_length] at hi; exact hi)
  | tup cs vs hl _ ih => exact .tup _ vs (by rw [renL_length]; exact hl) fun i hi => by rw [renL_getD]; exact ih i (by rw [renL_length] at hi; exact hi)
  | fn g cs vs hl _ ih => exact .fn g _ vs (by rw [renL_length]; exact hl) fun i hi => by rw [renL_getD]; exact ih i (by rw [renL_length] at hi; exact hi)
  | vp ag c x off blk o vals hk hc ha hv hr _ => exact .vp ag c x off blk o vals hk hc ha hv hr
  | vs0 ag c f a cap => exact .vs0 ag c f a cap
  | vs ag c n g blk o cap vals hk hcap h1 hc ha hv hr _ => exact .vs ag c n g blk o cap vals hk hcap h1 hc ha hv hr
theorem Rel.ren {E : Env} {ι ι' : Io} {a : AV} {v : Value} (f : Id → Id) (p : Nat → Bool) (hf : ∀ (id : Id) (g : Nat) (loc : Loc), (∀ k, id = .l k → p k = false) → (ι id)[g]? = some loc → (ι' (f id))[g]? = some loc) (h : Rel E ι a v) (ha : a.avoid p = true) : Rel E ι' (a.ren f) v := by
  have one : ∀ (id : Id), id.av p = true → ∀ k, id = .l k → p k = false := by
    intro id h k e
    subst e
    simpa [Id.av] using h
  induction h with
  | F h => exact .F (h.ren f)
  | agg cs vs hl _ ih => exact .agg _ vs (by rw [renL_length]; exact hl) fun i hi => by rw [renL_getD]; exact ih i (by rw [renL_length] at hi; exact hi) (avoidL_getD p _ _ (by simpa [AV.avoid] using ha))
  | tup cs vs hl _ ih => exact .tup _ vs (by rw [renL_length]; exact hl) fun i hi => by rw [renL_getD]; exact ih i (by rw [renL_length] at hi; exact hi) (avoidL_getD p _ _ (by simpa [AV.avoid] using ha))
  | fn g cs vs hl _ ih => exact .fn g _ vs (by rw [renL_length]; exact hl) fun i hi => by rw [renL_getD]; exact ih i (by rw [renL_length] at hi; exact hi) (avoidL_getD p _ _ (by simpa [AV.avoid] using ha))
  | ptr id off loc h => exact .ptr _ off loc (hf _ _ _ (one id ha) h)
  | eptr id g c i off loc h hn => exact .eptr _ g c i off loc (hf _ _ _ (one id ha) h) hn
  | sl0 id g c off loc a h => exact .sl0 _ g c off loc a (hf _ _ _ (one id ha) h)
  | sl id g c off len cp cap loc h hn hl hcap hc => exact .sl _ g c off len cp cap loc (hf _ _ _ (one id ha) h) hn hl hcap hc
mutual
theorem AV.avoid_none : ∀ a : AV, a.avoid (fun _ => false) = true
  | .bot => rfl
  | .val _ => rfl
  | .agg cs => by simp only [AV.avoid]; exact avoidL_none cs
  | .tup cs => by simp only [AV.avoid]; exact avoidL_none cs
  | .fn _ cs => by simp only [AV.avoid]; exact avoidL_none cs
  | .ptr id _ => by simp only [AV.avoid]; cases id <;> rfl
  | .eptr id _ _ _ _ => by simp only [AV.avoid]; cases id <;> rfl
  | .vp _ _ _ _ => rfl
  | .sl id _ _ _ _ _ => by simp only [AV.avoid]; cases id <;> rfl
  | .vs _ _ _ _ => rfl
theorem avoidL_none : ∀ l : List AV, avoidL (fun _ => false) l = true
  | [] => rfl
  | a :: l => by simp only [avoidL, AV.avoid_none a, avoidL_none l]; rfl
end
theorem Rel.ren' {E : Env} {ι ι' : Io} {a : AV} {v : Value} (f : Id → Id) (hf : ∀ (id : Id) (g : Nat) (loc : Loc), (ι id)[g]? = some loc → (ι' (f id))[g]? = some loc) (h : Rel E ι a v) : Rel E ι' (a.ren f) v :=
  h.ren f (fun _ => false) (fun id g loc _ hh => hf id g loc hh) (AV.avoid_none a)
theorem BlkOk.ren {E : Env} {ι ι' : Io} {w : World} {id : Id} {b : Blk} (f : Id → Id) (p : Nat → Bool) (hf : ∀ (id : Id) (g : Nat) (loc : Loc), (∀ k, id = .l k → p k = false) → (ι id)[g]? = some loc → (ι' (f id))[g]? = some loc) (ha : b.avoid p = true) (hid : ι' (f id) = ι id) (h : BlkOk E ι w id b) : BlkOk E ι' w (f id) (b.ren f) := by
  cases b with
  | obj cs =>
    obtain ⟨loc, vs, h1, hn, h2, h3, h4⟩ := h
    refine ⟨loc, vs, hid.trans h1, hn, h2, by rw [renL_length]; exact h3, fun i hi => ?_⟩
    rw [renL_length] at hi
    rw [renL_getD]
    exact (h4 i hi).ren f p hf (avoidL_getD p _ _ ha)
  | arr ag g c n ff =>
    obtain ⟨h0, loc, h1, h2, h3, h4⟩ := h
    exact ⟨h0, loc, by rw [hid]; exact h1, by rw [hid]; exact h2, h3, h4⟩
theorem Blk.avoid_none (b : Blk) : b.avoid (fun _ => false) = true := by cases b <;> simp [Blk.avoid, avoidL_none]
theorem BlkOk.ren' {E : Env} {ι ι' : Io} {w : World} {id : Id} {b : Blk} (f : Id → Id) (hf : ∀ (id : Id) (g : Nat) (loc : Loc), (ι id)[g]? = some loc → (ι' (f id))[g]? = some loc) (hid : ι' (f id) = ι id) (h : BlkOk E ι w id b) : BlkOk E ι' w (f id) (b.ren f) :=
  h.ren f (fun _ => false) (fun id g loc _ hh => hf id g loc hh) (Blk.avoid_none b) hid
theorem get_argT : ∀ (l : List AV) (n t : Nat), get (argT l n) t = if n ≤ t then l.getD (t - n) .bot else .bot
  | [], n, t => by simp [argT, get]
  | a :: l, n, t => by
    simp only [argT, get]
    rw [get_argT l (n + 1) t]
    cases h : Nat.beq n t with
    | true =>
      have := Nat.eq_of_beq_eq_true h
      subst this
      simp
    | false =>
      have hne : n ≠ t := fun e => by subst e; simp at h
      simp only [cond_false]
      by_cases h1 : n + 1 ≤ t
      · rw [if_pos h1, if_pos (by omega)]
        obtain ⟨m, hm⟩ : ∃ m, t = n + 1 + m := ⟨t - (n + 1), by omega⟩
        subst hm
        rw [show n + 1 + m - (n + 1) = m by omega, show n + 1 + m - n = m + 1 by omega]
        simp
      · rw [if_neg h1, if_neg (by omega)]
def hpC (h : Hp) (N : List Blk) : Hp
  | .n j => N[j]?
  | .o i => h (.o i)
  | .l k => h (.l k)
def PostC (E : Env) (ι : Io) (w' : World) (v : Value) (Q : AV → Hp → List Blk → Prop) : Prop :=
  ∃ E' ι' r h' N, E.le E' ∧ (∀ (i : Id) (g : Nat) (loc : Loc), (ι i)[g]? = some loc → (ι' i)[g]? = some loc) ∧ (∀ i, ι i = [] → (∀ j, i ≠ .n j) → ι' i = []) ∧ (∀ j, N.length ≤ j → ι' (.n j) = []) ∧ Den E' ι' (hpC h' N) w' ∧ Rel E' ι' r v ∧ Q r h' N
/-- Called with these, over this heap, the function comes to its end, and hands back what Q says. -/
def SemC (P : Program) (f : FuncId) (args : List AV) (h : Hp) (Q : AV → Hp → List Blk → Prop) : Prop :=
  ∀ (E : Env) (ι : Io) (vs : Array Value) (w : World), Den E ι h w → (∀ j, ι (.n j) = []) → args.length = vs.size → (∀ i, i < args.length → Rel E ι (args.getD i .bot) (vs.getD i undef)) →
    Calls P f vs w fun e w' => ∃ v, e = .returned v ∧ PostC E ι w' v Q
theorem SemC.mono {f : FuncId} {args : List AV} {h : Hp} {Q Q' : AV → Hp → List Blk → Prop} (hh : SemC P f args h Q) (hq : ∀ r h' N, Q r h' N → Q' r h' N) : SemC P f args h Q' := by
  intro E ι vs w d hno hl hr
  refine (hh E ι vs w d hno hl hr).mono fun e w' he => ?_
  obtain ⟨v, rfl, E', ι', r, h2, N, p1, p2, p3, p3n, p4, p5, h1⟩ := he
  exact ⟨v, rfl, E', ι', r, h2, N, p1, p2, p3, p3n, p4, p5, hq _ _ _ h1⟩
def down : Id → Id
  | .o i => i
  | .n j => .n j
  | .l k => .l k
theorem SemC.enter {f : FuncId} {fn : Func} {c : Code} {args : List AV} {h : Hp} {Q : AV → Hp → List Blk → Prop} (hf : P.funcs[f]? = some fn) (hb : fn.body = some c) (hn : args.length ≤ fn.ntmps) (fr : List Nat) (hnd : fr.Nodup)
    (hh : SemW P f fn [] (fun r h' N => Q (r.ren down) h' (N.map (Blk.ren down))) h [.code c] (argT (renL .o args) 0) [] fr) : SemC P f args h Q := by
  intro E ι vs w d hno hl hr cs
  let b : Frame := { (default : Frame) with fn := f, kind := .normal }
  have henter : Frame.enter P f vs .normal = b.at { tmps := vs ++ Array.replicate (fn.ntmps - vs.size) undef, defers := [] } [.code c] := by
    simp [Frame.enter, Frame.at, hf, hb, b]
  let ιc : Io := fun i => match i with | .o i => ι i | _ => []
  have pc : ∀ i, place ιc (.o i) = place ι i := fun i => rfl
  have dc : Den E ιc (hp h []) w := by
    constructor
    · exact d.kept
    · exact d.os
    · exact d.tape
    · exact d.output
    · intro id b hb
      cases id with
      | o i =>
        simp only [hp, Option.map_eq_some_iff] at hb
        obtain ⟨b0, hb0, rfl⟩ := hb
        exact (d.ok i b0 hb0).ren' (ι' := ιc) .o (fun id g loc hh => hh) rfl
      | l k => simp [hp, getB] at hb
      | n j => simp [hp] at hb
    · intro id id' b b' k h1 h2 hne hk hk'
      cases id with
      | o i =>
        cases id' with
        | o i' =>
          simp only [hp, Option.map_eq_some_iff] at h1 h2
          obtain ⟨b0, hb0, _⟩ := h1
          obtain ⟨b1, hb1, _⟩ := h2
          exact d.apart i i' b0 b1 k hb0 hb1 (fun e => hne (by rw [e])) hk hk'
        | l k => simp [hp, getB] at h2
        | n j => simp [hp] at h2
      | l k => simp [hp, getB] at h1
      | n j => simp [hp] at h1
    · intro id b k h1 hk
      cases id with
      | o i =>
        simp only [hp, Option.map_eq_some_iff] at h1
        obtain ⟨b0, hb0, _⟩ := h1
        exact d.own i b0 k hb0 hk
      | l k => simp [hp, getB] at h1
      | n j => simp [hp] at h1
  have hT : TOk E ιc (argT (renL .o args) 0) (vs ++ Array.replicate (fn.ntmps - vs.size) undef) := by
    intro t
    rw [get_argT, if_pos (Nat.zero_le _), Nat.sub_zero, renL_getD]
    by_cases ht : t < args.length
    · have := (hr t ht).ren' (ι' := ιc) .o (fun id g loc hh => hh)
      have e : (vs ++ Array.replicate (fn.ntmps - vs.size) undef).getD t undef = vs.getD t undef := by
        have : t < vs.size := by omega
        simp [Array.getElem?_append_left this]
      rw [e]
      exact this
    · have : args.getD t .bot = .bot := by simp [List.getElem?_eq_none (Nat.le_of_not_lt ht)]
      rw [this]
      exact Rel.bot _
  obtain ⟨w', frm, v, s1, s2, s3, E', ι', r, h', N, p1, p2, p3, p4, p4n, p5, p6, p7, _⟩ := hh E ιc { tmps := vs ++ Array.replicate (fn.ntmps - vs.size) undef, defers := [] } w b cs rfl rfl rfl (by simp; omega) hT dc ⟨hnd, fun _ _ => rfl⟩ ⟨fun _ => rfl, Track.nil _⟩
  rw [← henter] at s1
  refine ⟨.returned v, w', frm, ⟨v, rfl, ?_⟩, s1, s2, s3⟩
  have hon : ∀ j, ι' (.o (.n j)) = [] := fun j => p3 (.n j) (hno j)
  have hon' : ∀ j, h' (.n j) = none := fun j => by
    have := p5.none (hon j)
    simpa [hpN] using this
  let ι2 : Io := fun i => match i with | .n j => ι' (.n j) | i => ι' (.o i)
  have e2 : ∀ i, (∀ j, i ≠ .n j) → ι2 i = ι' (.o i) := by
    intro i hi
    cases i with
    | n j => exact absurd rfl (hi j)
    | o i => rfl
    | l k => rfl
  have hren : ∀ (id : Id) (g : Nat) (loc : Loc), (ι' id)[g]? = some loc → (ι2 (down id))[g]? = some loc := by
    intro id g loc hh
    cases id with
    | o i =>
      show (ι2 i)[g]? = _
      cases i with
      | n j => rw [hon j] at hh; simp at hh
      | o i => exact hh
      | l k => exact hh
    | n j => exact hh
    | l k => rw [p4 k] at hh; simp at hh
  -- from a name here to the name there
  let up : Id → Id := fun i => match i with | .n j => .n j | i => .o i
  have up_down : ∀ i, down (up i) = i := fun i => by cases i <;> rfl
  have up_ι : ∀ i, ι2 i = ι' (up i) := fun i => by cases i <;> rfl
  have up_inj : ∀ i i', up i = up i' → i = i' := fun i i' e => by rw [← up_down i, e, up_down]
  have hup : ∀ i b, hpC h' (N.map (Blk.ren down)) i = some b → ∃ b0, hpN h' N (up i) = some b0 ∧ b = b0.ren down := by
    intro i b hb
    cases i with
    | n j =>
      simp only [hpC, List.getElem?_map, Option.map_eq_some_iff] at hb
      obtain ⟨b0, h0, rfl⟩ := hb
      exact ⟨b0, h0, rfl⟩
    | o i =>
      simp only [hpC] at hb
      refine ⟨b.ren .o, by simp [up, hpN, hb], ?_⟩
      rw [Blk.ren_ren]
      exact (Blk.ren_id _ (fun i => rfl) b).symm
    | l k =>
      simp only [hpC] at hb
      refine ⟨b.ren .o, by simp [up, hpN, hb], ?_⟩
      rw [Blk.ren_ren]
      exact (Blk.ren_id _ (fun i => rfl) b).symm
  refine ⟨E', ι2, r.ren down, h', N.map (Blk.ren down), p1, ?_, ?_, fun j hj => p4n j (by simpa using hj), ?_, p6.ren' down hren, p7⟩
  · intro i g loc hh
    have := p2 i g loc hh
    cases i with
    | n j => rw [hno j] at hh; simp at hh
    | o i => exact this
    | l k => exact this
  · intro i hi hne
    rw [e2 i hne]
    exact p3 i hi
  · constructor
    · exact p5.kept
    · exact p5.os
    · exact p5.tape
    · exact p5.output
    · intro i b hb
      obtain ⟨b0, h0, rfl⟩ := hup i b hb
      have := (p5.ok (up i) b0 h0).ren' (ι' := ι2) down hren (by rw [up_down, up_ι])
      rw [up_down] at this
      exact this
    · intro i i' b b' k h1 h2 hne hk hk'
      obtain ⟨b0, h0, _⟩ := hup i b h1
      obtain ⟨b1, h1', _⟩ := hup i' b' h2
      refine p5.apart (up i) (up i') b0 b1 k h0 h1' (fun e => hne (up_inj _ _ e)) ?_ ?_
      · unfold place at hk ⊢; rw [← up_ι]; exact hk
      · unfold place at hk' ⊢; rw [← up_ι]; exact hk'
    · intro i b k h1 hk
      obtain ⟨b0, h0, _⟩ := hup i b h1
      refine p5.own (up i) b0 k h0 ?_
      unfold place at hk ⊢; rw [← up_ι]; exact hk
end Go.AM
set_option linter.unusedVariables false
set_option linter.unusedSimpArgs false
namespace Go.AM
variable {P : Program}
theorem Den.rename {E : Env} {ι ι2 : Io} {h h2 : Hp} {w : World} (d : Den E ι h w) (up : Id → Id) (hup : ∀ i b, h2 i = some b → ∃ b0, h (up i) = some b0 ∧ ι2 i = ι (up i) ∧ BlkOk E ι2 w i b)
    (inj : ∀ i i' b b', h2 i = some b → h2 i' = some b' → up i = up i' → i = i') : Den E ι2 h2 w := by
  constructor
  · exact d.kept
  · exact d.os
  · exact d.tape
  · exact d.output
  · intro i b hb
    obtain ⟨_, _, _, hk⟩ := hup i b hb
    exact hk
  · intro i i' b b' k h1 h1' hne hk hk'
    obtain ⟨b0, g1, g2, _⟩ := hup i b h1
    obtain ⟨b1, g1', g2', _⟩ := hup i' b' h1'
    refine d.apart (up i) (up i') b0 b1 k g1 g1' (fun e => hne (inj _ _ _ _ h1 h1' e)) ?_ ?_
    · unfold place at hk ⊢; rw [← g2]; exact hk
    · unfold place at hk' ⊢; rw [← g2']; exact hk'
  · intro i b k h1 hk
    obtain ⟨b0, g1, g2, _⟩ := hup i b h1
    refine d.own (up i) b0 k g1 ?_
    unfold place at hk ⊢; rw [← g2]; exact hk
def leT : Tm → Tm → Prop
  | [], _ => True
  | (t, v) :: T', T => get T t = v ∧ leT T' T
def leB : Lh → Lh → Prop
  | [], _ => True
  | (k, b) :: L', L => getB L k = some b ∧ leB L' L
theorem leT_get {T : Tm} : ∀ {T' : Tm}, leT T' T → ∀ t, get T' t = .bot ∨ get T' t = get T t
  | [], _, _ => .inl rfl
  | (u, v) :: T', h, t => by
    simp only [leT] at h
    simp only [get]
    cases hb : Nat.beq u t with
    | true =>
      have := Nat.eq_of_beq_eq_true hb
      subst this
      exact .inr h.1.symm
    | false => exact leT_get h.2 t
theorem leB_get {L : Lh} : ∀ {L' : Lh}, leB L' L → ∀ k b, getB L' k = some b → getB L k = some b
  | [], _, k, b, h => by simp [getB] at h
  | (u, c) :: L', h, k, b, hb => by
    simp only [leB] at h
    simp only [getB] at hb
    cases hu : Nat.beq u k with
    | true =>
      have := Nat.eq_of_beq_eq_true hu
      subst this
      rw [hu] at hb
      cases hb
      exact h.1
    | false =>
      rw [hu] at hb
      exact leB_get h.2 k b hb
theorem avoidT_get (p : Nat → Bool) : ∀ (T : Tm) (t : Nat), avoidT p T = true → (get T t).avoid p = true
  | [], _, _ => rfl
  | (u, v) :: T, t, h => by
    simp only [avoidT, Bool.and_eq_true] at h
    simp only [get]
    cases Nat.beq u t with
    | true => exact h.1
    | false => exact avoidT_get p T t h.2
theorem avoidB_get (p : Nat → Bool) : ∀ (L : Lh) (k : Nat) (b : Blk), avoidB p L = true → getB L k = some b → p k = false ∧ b.avoid p = true
  | [], _, _, _, h => by simp [getB] at h
  | (u, c) :: L, k, b, h, hb => by
    simp only [avoidB, Bool.and_eq_true, Bool.not_eq_true'] at h
    simp only [getB] at hb
    cases hu : Nat.beq u k with
    | true =>
      have := Nat.eq_of_beq_eq_true hu
      subst this
      rw [hu] at hb
      cases hb
      exact ⟨h.1.1, h.1.2⟩
    | false =>
      rw [hu] at hb
      exact avoidB_get p L k b h.2 hb
section
variable {fid : FuncId} {fn : Func} {Kt : Trk} {Q : AV → Hp → List Blk → Prop} {h : Hp}
/-- are those that are followed none of these names? -/
def trkAv : Trk → List Nat → Bool
  | [], _ => true
  | (k, _) :: K, fr => !(memN fr k) && trkAv K fr
theorem trkAv_mem : ∀ {K : Trk} {fr : List Nat}, trkAv K fr = true → ∀ k p, (k, p) ∈ K → memN fr k = false
  | (q, r) :: K, fr, h, k, p, hk => by
    simp only [trkAv, Bool.and_eq_true, Bool.not_eq_true'] at h
    rcases List.mem_cons.1 hk with e | e
    · cases e; exact h.1
    · exact trkAv_mem h.2 k p e
/-- Some temporaries, some blocks are forgotten; the names of blocks forgotten may be used anew. -/
theorem SemW.cut' {ks : List Item} {T T' : Tm} {L L' : Lh} {fr fr' : List Nat} (hT : ∀ t, get T' t = .bot ∨ get T' t = get T t) (hL : ∀ k b, getB L' k = some b → getB L k = some b) (hnd : fr'.Nodup) (aT : avoidT (memN fr') T' = true) (aL : avoidB (memN fr') L' = true) (hK : trkAv Kt fr' = true) (hh : SemW P fid fn Kt Q h ks T' L' fr') : SemW P fid fn Kt Q h ks T L fr := by
  intro E ι a w b cs h1 h2 h3 h4 h5 h6 h7 h8
  let ι' : Io := fun i => match i with | .l k => if memN fr' k then [] else ι (.l k) | i => ι i
  have le : ∀ (id : Id) (g : Nat) (loc : Loc), (∀ k, id = .l k → memN fr' k = false) → (ι id)[g]? = some loc → (ι' id)[g]? = some loc := by
    intro id g loc hp hh
    cases id with
    | l k => simp only [ι', hp k rfl]; exact hh
    | o i => exact hh
    | n j => exact hh
  have hT' : TOk E ι' T' a.tmps := by
    intro t
    rcases hT t with e | e
    · rw [e]; exact Rel.bot _
    · have := h5 t
      rw [← e] at this
      have := this.ren (ι' := ι') (fun i => i) (memN fr') le (avoidT_get _ _ _ aT)
      rwa [AV.ren_id _ (fun _ => rfl)] at this
  have hD : Den E ι' (hp h L') w := by
    refine h6.rename (fun i => i) (fun i b hb => ?_) (fun _ _ _ _ _ _ e => e)
    cases i with
    | l k =>
      have hb' := hL k b hb
      obtain ⟨q1, q2⟩ := avoidB_get _ _ _ _ aL hb
      have e : ι' (.l k) = ι (.l k) := by simp only [ι', q1]; rfl
      refine ⟨b, hb', e, ?_⟩
      have := BlkOk.ren (id := .l k) (ι' := ι') (fun i => i) (memN fr') le q2 e (h6.ok (.l k) b hb')
      rwa [Blk.ren_id _ (fun _ => rfl)] at this
    | o i =>
      refine ⟨b, hb, rfl, ?_⟩
      have hb' := hb
      simp only [hp, Option.map_eq_some_iff] at hb'
      obtain ⟨b0, hb0, rfl⟩ := hb'
      have av : ∀ b0 : Blk, (b0.ren .o).avoid (memN fr') = true := by
        have main : (∀ a : AV, (a.ren .o).avoid (memN fr') = true) ∧ True := ⟨fun a => by
          have key : ∀ a : AV, (a.ren .o).avoid (memN fr') = true := fun a =>
            AV.rec (motive_1 := fun a => (a.ren .o).avoid (memN fr') = true) (motive_2 := fun l => avoidL (memN fr') (renL .o l) = true) rfl (fun _ => rfl) (fun _ h => h) (fun _ h => h) (fun _ _ h => h) (fun _ _ => rfl) (fun _ _ _ _ _ => rfl) (fun _ _ _ _ _ => rfl) (fun _ _ _ _ _ _ => rfl) (fun _ _ _ _ _ => rfl) rfl (fun _ _ h1 h2 => by simp only [renL, avoidL, h1, h2]; rfl) a
          exact key a, trivial⟩
        intro b0
        cases b0 with
        | obj cs =>
          simp only [Blk.ren, Blk.avoid]
          induction cs with
          | nil => rfl
          | cons c cs ih => simp only [renL, avoidL, main.1 c, ih]; rfl
        | arr => rfl
      have := (h6.ok (.o i) _ hb).ren (ι' := ι') (fun i => i) (memN fr') le (av b0) rfl
      rwa [Blk.ren_id _ (fun _ => rfl)] at this
    | n j => simp [hp] at hb
  have hm : ∀ (l : List Nat) (n : Nat), n ∈ l → memN l n = true := by
    intro l
    induction l with
    | nil => intro n hn; cases hn
    | cons a l ih =>
      intro n hn
      simp only [memN]
      cases hb : Nat.beq a n with
      | true => rfl
      | false =>
        rcases List.mem_cons.1 hn with e | e
        · subst e; simp at hb
        · exact ih n e
  obtain ⟨w', frm, v, s1, s2, s3, s4⟩ := hh E ι' a w b cs h1 h2 h3 h4 hT' hD ⟨hnd, fun n hn => by simp only [ι', hm _ _ hn]; rfl⟩ ⟨h8.1, fun k p hk g loc hg => le _ _ _ (fun q e => by cases e; exact trkAv_mem hK k p hk) (h8.2 k p hk g loc hg)⟩
  exact ⟨w', frm, v, s1, s2, s3, s4.mono (Env.le.refl E) (fun i g l x => x) (fun i x => x)⟩
theorem SemW.cut {ks : List Item} {T T' : Tm} {L L' : Lh} {fr fr' : List Nat} (hT : leT T' T) (hL : leB L' L) (hnd : fr'.Nodup) (aT : avoidT (memN fr') T' = true) (aL : avoidB (memN fr') L' = true) (hh : SemW P fid fn [] Q h ks T' L' fr') : SemW P fid fn [] Q h ks T L fr :=
  SemW.cut' (leT_get hT) (fun k b hb => leB_get hL k b hb) hnd aT aL rfl hh
/-- the condition that is to be looked at now -/
def condOf (ks : List Item) (T : Tm) : Option (Bool × List Item × List Item) := match ks with
  | .code c :: rest => match c with
    | .cond x a b => evK T x none fun v => match v with
      | .val v => match v with
        | .bool t => some (t, .code a :: rest, .code b :: rest)
        | _ => none
      | _ => none
    | _ => none
  | _ => none
theorem SemW.cond {ks k1 k2 : List Item} {T : Tm} {L : Lh} {fr : List Nat} {x : Bool} (hc : condOf ks T = some (x, k1, k2)) (h1 : x = true → SemW P fid fn Kt Q h k1 T L fr) (h2 : x = false → SemW P fid fn Kt Q h k2 T L fr) : SemW P fid fn Kt Q h ks T L fr := by
  unfold condOf at hc
  split at hc
  · rename_i c rest
    split at hc
    · rename_i o a b
      rw [evK_eq] at hc
      split at hc
      · rename_i v hv
        split at hc
        · split at hc
          · rename_i t
            simp only [Option.some.injEq, Prod.mk.injEq] at hc
            obtain ⟨rfl, rfl, rfl⟩ := hc
            intro E ι ac w fm cs q1 q2 q3 q4 q5 q6 q7 q8
            have e := (rel_val (ev_rel q5 hv)).1
            have hs := step_cond (P := P) (b := fm) (a := ac) (k := rest) (cs := cs) (w := w) (x := a) (y := b) e
            cases t with
            | true =>
              obtain ⟨w', frm, u, s, r⟩ := h1 rfl E ι ac w fm cs q1 q2 q3 q4 q5 q6 q7 q8
              exact ⟨w', frm, u, .head hs s, r⟩
            | false =>
              obtain ⟨w', frm, u, s, r⟩ := h2 rfl E ι ac w fm cs q1 q2 q3 q4 q5 q6 q7 q8
              exact ⟨w', frm, u, .head hs s, r⟩
          · cases hc
        · cases hc
      · cases hc
    · cases hc
  · cases hc
theorem SemW.split {ks : List Item} {d : Nat} {T : Tm} {L : Lh} {fr : List Nat} {x : Bool} (h1 : x = true → SemW P fid fn Kt Q h ks ((d, abool true) :: T) L fr) (h2 : x = false → SemW P fid fn Kt Q h ks ((d, abool false) :: T) L fr) :
    SemW P fid fn Kt Q h ks ((d, .val (.bool x)) :: T) L fr := by
  cases x with
  | true => exact h1 rfl
  | false => exact h2 rfl
theorem SemW.loop {X : Type} {c : Code} {k : List Item} (T : X → Tm) (L : X → Lh) (F : X → List Nat) (m : X → Nat) (x0 : X) {T0 : Tm} {L0 : Lh} {F0 : List Nat}
    (start : SemW P fid fn Kt Q h (.code c :: .inLoop c :: k) (T x0) (L x0) (F x0) → SemW P fid fn Kt Q h (.code c :: .inLoop c :: k) T0 L0 F0)
    (round : ∀ x, (∀ y, m y < m x → SemW P fid fn Kt Q h (.inLoop c :: k) (T y) (L y) (F y)) → SemW P fid fn Kt Q h (.code c :: .inLoop c :: k) (T x) (L x) (F x)) : SemW P fid fn Kt Q h (.code (.loop c) :: k) T0 L0 F0 := by
  have all : ∀ n x, m x = n → SemW P fid fn Kt Q h (.inLoop c :: k) (T x) (L x) (F x) := by
    intro n
    induction n using Nat.strongRecOn with
    | _ n ih =>
      intro x hx
      exact (round x (fun y hy => ih (m y) (by omega) y rfl)).step fun b a cs w => step_inLoop
  exact (start (round x0 fun y _ => all _ y rfl)).step fun b a cs w => step_loop
end
end Go.AM
set_option linter.unusedVariables false
set_option linter.unusedSimpArgs false
namespace Go.AM
variable {P : Program}
/-- where a number stands in a list -/
def idx : List Nat → Nat → Option Nat
  | [], _ => none
  | a :: l, k => bif Nat.beq a k then some 0 else (idx l k).map (· + 1)
theorem idx_some : ∀ {l : List Nat} {k j : Nat}, idx l k = some j → l[j]? = some k
  | a :: l, k, j, h => by
    simp only [idx] at h
    cases hb : Nat.beq a k with
    | true =>
      rw [hb] at h
      have := Nat.eq_of_beq_eq_true hb
      cases h
      simp [this]
    | false =>
      rw [hb] at h
      simp only [cond_false, Option.map_eq_some_iff] at h
      obtain ⟨j', h', rfl⟩ := h
      simpa using idx_some h'
theorem idx_nodup : ∀ {l : List Nat} {j k : Nat}, l.Nodup → l[j]? = some k → idx l k = some j
  | a :: l, 0, k, _, h => by
    simp at h
    subst h
    simp [idx]
  | a :: l, j + 1, k, hn, h => by
    have h' : l[j]? = some k := by simpa using h
    have hne : a ≠ k := fun e => by
      subst e
      exact (List.nodup_cons.1 hn).1 (List.mem_of_getElem? h')
    simp only [idx]
    cases hb : Nat.beq a k with
    | true => exact absurd (Nat.eq_of_beq_eq_true hb) hne
    | false =>
      simp only [cond_false, idx_nodup (List.nodup_cons.1 hn).2 h', Option.map_some]
theorem idx_mem {l : List Nat} {k : Nat} (h : k ∈ l) : ∃ j, idx l k = some j := by
  induction l with
  | nil => cases h
  | cons a l ih =>
    simp only [idx]
    cases hb : Nat.beq a k with
    | true => exact ⟨0, rfl⟩
    | false =>
      rcases List.mem_cons.1 h with e | e
      · subst e; simp at hb
      · obtain ⟨j, hj⟩ := ih e
        exact ⟨j + 1, by simp [hj]⟩
/-- new blocks get names of this call's -/
def nu (fr : List Nat) : Id → Id
  | .n j => .l (fr.getD j 0)
  | i => i
def renB (f : Id → Id) : Lh → Lh
  | [] => []
  | (k, b) :: L => (k, b.ren f) :: renB f L
def addN (f : Id → Id) : List Nat → List Blk → Lh → Lh
  | k :: fr, b :: N, L => (k, b.ren f) :: addN f fr N L
  | _, _, L => L
theorem getB_renB (f : Id → Id) : ∀ (L : Lh) (k : Nat), getB (renB f L) k = (getB L k).map (Blk.ren f)
  | [], _ => rfl
  | (u, b) :: L, k => by
    simp only [renB, getB]
    cases Nat.beq u k with
    | true => rfl
    | false => exact getB_renB f L k
theorem getB_addN (f : Id → Id) : ∀ (fr : List Nat) (N : List Blk) (L : Lh) (k : Nat), N.length ≤ fr.length → getB (addN f fr N L) k = match idx (fr.take N.length) k with | some j => (N[j]?).map (Blk.ren f) | none => getB L k
  | fr, [], L, k, _ => by cases fr <;> simp [addN, idx]
  | [], _ :: _, _, _, h => by simp at h
  | a :: fr, b :: N, L, k, h => by
    simp only [addN, getB, List.length_cons, List.take_succ_cons, idx]
    cases Nat.beq a k with
    | true => rfl
    | false =>
      simp only [cond_false]
      rw [getB_addN f fr N L k (by simpa using h)]
      cases idx (fr.take N.length) k with
      | none => rfl
      | some j => simp
theorem callOf_some {ks : List Item} {T : Tm} {f : FuncId} {args : List AV} {d : Nat} {ks' : List Item} (hc : callOf ks T = some (f, args, d, ks')) : ∃ ops i is rest o c x caps vs, ks = .inRegion ops (i :: is) :: rest ∧ ks' = .inRegion ops is :: rest ∧ ops[i]? = some o ∧
    (∀ (E : Env) (ι : Io) (a : Act), TOk E ι T a.tmps → Region.wanted o (yielded ops a.tmps) = true) ∧ o.op = .call c ∧ c.callee = .value x ∧ ev T x = some (.fn f caps) ∧ evs T c.args.toList = some vs ∧ args = vs ++ caps ∧ o.dst = some d := by
  unfold callOf at hc
  split at hc
  · rename_i ops i is rest
    split at hc
    · rename_i o ho
      rcases guardK_eq ops T o _ _ _ with e | ⟨e, hw⟩ | ⟨e, hw⟩
      · rw [e] at hc; cases hc
      · rw [e] at hc
        split at hc
        · rename_i c hop
          split at hc
          · rename_i x hx
            rw [evK_eq] at hc
            split at hc
            · rename_i v hv
              split at hc
              · rename_i f' caps
                rw [evsK_eq] at hc
                split at hc
                · rename_i vs hvs
                  split at hc
                  · rename_i d' hd
                    simp only [Option.some.injEq, Prod.mk.injEq] at hc
                    obtain ⟨rfl, rfl, rfl, rfl⟩ := hc
                    exact ⟨ops, i, is, rest, o, c, x, caps, vs, rfl, rfl, ho, hw, hop, hx, hv, hvs, rfl, hd⟩
                  · cases hc
                · cases hc
              · cases hc
            · cases hc
          · cases hc
        · cases hc
      · rw [e] at hc; cases hc
    · cases hc
  · cases hc
section
variable {fid : FuncId} {fn : Func} {Kt : Trk} {Q : AV → Hp → List Blk → Prop} {h : Hp}
theorem run_call {o : Oper} {c : Call} {x : Operand} {a : Act} {f : FuncId} {g : Func} {caps : Array Value} (hop : o.op = .call c) (hcal : c.callee = .value x) (hx : a.eval x = .func (.func f) #[] caps) (hf : P.funcs[f]? = some g) (hname : (g.name == "runtime.NumGoroutine") = false) (hb : g.body.isSome = true) (w : World) :
    (execOp a.eval o).run P w = .ok (.enter f (c.args.map a.eval ++ caps)) w := by
  have hne : g.name ≠ "runtime.NumGoroutine" := by simpa using hname
  have hb' : g.body ≠ none := by intro e; rw [e] at hb; cases hb
  simp [execOp, hop, resolve, hcal, hx, Deferred.ofValue, invoke, callFunc, hf, hne, hb']
/-- operation i of a region is carried out: what it leaves -/
def OpRun (P : Program) (ops : Array Oper) (i : Nat) (o : Oper) (T : Tm) (h : Hp) (L : Lh) (fr : List Nat) (R : AV → Hp → Lh → List Nat → Prop) : Prop :=
  ∀ (E : Env) (ι : Io) (a : Act) (w : World) (b : Frame) (cs : List Frame) (is : List Nat) (k : List Item), TOk E ι T a.tmps → Den E ι (hp h L) w → FrOk fr ι → (∀ j, ι (.n j) = []) →
    ∃ r w' E' ι' v h' L' fr', Steps P (lone (b.at a (.inRegion ops (i :: is) :: k)) cs w) (lone (b.at (a.put o.dst r) (.inRegion ops is :: k)) cs w') ∧ E.le E' ∧ Io.le ι ι' ∧ (∀ i, ι (.o i) = [] → ι' (.o i) = []) ∧ Den E' ι' (hp h' L') w' ∧ Rel E' ι' v r ∧ FrOk fr' ι' ∧ (∀ j, ι' (.n j) = []) ∧ R v h' L' fr'
theorem SemW.run1 {ops : Array Oper} {i : Nat} {is : List Nat} {k : List Item} {o : Oper} {T T' : Tm} {L : Lh} {fr : List Nat} (hT' : ∀ (E : Env) (ι : Io) (tmps : Array Value), TOk E ι T tmps → TOk E ι T' tmps) (hd : ∀ d, o.dst = some d → d < fn.ntmps)
    (hr : OpRun P ops i o T' h L fr fun v h' L' fr' => SemW P fid fn Kt Q h' (.inRegion ops is :: k) (setT T o.dst v) L' fr') : SemW P fid fn Kt Q h (.inRegion ops (i :: is) :: k) T L fr := by
  intro E ι a w b cs q1 q2 q3 q4 q5 q6 q7 q8
  obtain ⟨r, w1, E', ι', v, h', L', fr', s1, s2, s3, s4, s5, s6, s7, s8, hW⟩ := hr E ι a w b cs is k (hT' E ι _ q5) q6 q7 q8.1
  have hT : TOk E' ι' (setT T o.dst v) (a.put o.dst r).tmps := by
    have := q5.mono s2 s3
    unfold setT
    cases hdd : o.dst with
    | none => exact this
    | some d => exact this.put (by rw [q4]; exact hd d hdd) s6
  obtain ⟨w', frm, u, t1, t2, t3, t4⟩ := hW E' ι' (a.put o.dst r) w1 b cs q1 q2 (by cases o.dst <;> exact q3) (by cases o.dst <;> simp [Act.put, q4]) hT s5 s7 ⟨s8, q8.2.mono s3⟩
  exact ⟨w', frm, u, Steps.trans s1 t1, t2, t3, t4.mono s2 (fun i g l x => s3 _ _ _ x) s4⟩
theorem OpRun.step {ty : TypeId → TI} {ops : Array Oper} {i : Nat} {o : Oper} {T : Tm} {L L' : Lh} {fr fr' : List Nat} {v : AV} {R : AV → Hp → Lh → List Nat → Prop} (ho : ops[i]? = some o) (hw : ∀ (E : Env) (ι : Io) (a : Act), TOk E ι T a.tmps → Region.wanted o (yielded ops a.tmps) = true)
    (hg : StepGood P ty T L fr o v L' fr') (hR : R v h L' fr') : OpRun P ops i o T h L fr R := by
  intro E ι a w b cs is k q5 q6 q7 q8
  obtain ⟨r, w1, ι1, s1, s2, s3, s4, s5, s6, s7⟩ := hg E ι h w a q5 q6 q7
  exact ⟨r, w1, E, ι1, v, h, L', fr', .one (op_step ho (hw E ι a q5) s1), Env.le.refl E, s2, fun i x => by rw [s6]; exact x, s3, s4, s5, fun j => by rw [s7, q8], hR⟩
theorem OpRun.call {ops : Array Oper} {i : Nat} {o : Oper} {c : Call} {x : Operand} {caps vs : List AV} {T : Tm} {L : Lh} {fr : List Nat} {f : FuncId} {g : Func} {R : AV → Hp → Lh → List Nat → Prop} (ho : ops[i]? = some o) (hw : ∀ (E : Env) (ι : Io) (a : Act), TOk E ι T a.tmps → Region.wanted o (yielded ops a.tmps) = true)
    (hop : o.op = .call c) (hcal : c.callee = .value x) (hx : ev T x = some (.fn f caps)) (hvs : evs T c.args.toList = some vs) (hf : P.funcs[f]? = some g) (hname : (g.name == "runtime.NumGoroutine") = false) (hb : g.body.isSome = true)
    (hh : SemC P f (vs ++ caps) (hp h L) fun r h2 N => ∃ h3 L3, h2 = hp h3 L3 ∧ N.length ≤ fr.length ∧ R (r.ren (nu fr)) h3 (addN (nu fr) fr N (renB (nu fr) L3)) (fr.drop N.length)) : OpRun P ops i o T h L fr R := by
  intro E ι a w b cs is rest q5 q6 q7 q8
  obtain ⟨cv, hcv, hcl, hcr⟩ := rel_fn (ev_rel q5 hx)
  obtain ⟨hvl, hvr⟩ := evs_rel q5 hvs
  have hrun := run_call hop hcal hcv hf hname hb w
  have hg := stepG_op (P := P) (b := b) (k := rest) (cs := cs) (w := w) (rest := is) ho (hw E ι a q5)
  have henter : Go.step P (lone (b.at a (.inRegion ops (i :: is) :: rest)) cs w) = .next (lone (Frame.enter P f (c.args.map a.eval ++ cv) .normal) (b.at a (.inRegion ops (i :: is) :: rest) :: cs) w) :=
    step_lone_go (by rw [hg]; simp [stepG.apply, hrun, Frame.at])
  have hfin : ∀ v, (b.at a (.inRegion ops (i :: is) :: rest)).finish v = b.at (a.put o.dst v) (.inRegion ops is :: rest) := by
    intro v; rw [Frame.finish_at, ho]; rfl
  have hargs : ∀ i, i < (vs ++ caps).length → Rel E ι ((vs ++ caps).getD i .bot) ((c.args.map a.eval ++ cv).getD i undef) := by
    intro i hi
    have hvl' : vs.length = c.args.size := by simpa using hvl
    by_cases hiv : i < vs.length
    · have e1 : (vs ++ caps).getD i .bot = vs.getD i .bot := by simp [List.getElem?_append_left hiv]
      have e2 : (c.args.map a.eval ++ cv).getD i undef = (c.args.toList.map a.eval).getD i undef := by
        have : i < (c.args.map a.eval).size := by simp; omega
        simp [Array.getElem?_append_left this]
      rw [e1, e2]
      exact hvr i hiv
    · have e1 : (vs ++ caps).getD i .bot = caps.getD (i - vs.length) .bot := by simp [List.getElem?_append_right (Nat.le_of_not_lt hiv)]
      have e2 : (c.args.map a.eval ++ cv).getD i undef = cv.getD (i - vs.length) undef := by
        have : (c.args.map a.eval).size ≤ i := by simp; omega
        simp [Array.getElem?_append_right this, hvl']
      rw [e1, e2]
      exact hcr _ (by simp at hi; omega)
  obtain ⟨e, w1, frm1, ⟨v, rfl, E', ι', r, h2, N, p1, p2, p3, p3n, p4, p5, h3, L3, rfl, hN, hW⟩, s1, s2, s3⟩ := hh E ι (c.args.map a.eval ++ cv) w q6 q8 (by simp at hvl ⊢; omega) hargs (b.at a (.inRegion ops (i :: is) :: rest) :: cs)
  -- the names of new blocks
  let fr' := fr.take N.length
  have hfr' : ∀ j, j < N.length → fr'[j]? = some (fr.getD j 0) := by
    intro j hj
    have : j < fr.length := by omega
    simp [fr', hj, this]
  have hnd' : fr'.Nodup := (List.take_sublist _ _).nodup q7.1
  let ι2 : Io := fun i => match i with
    | .l k => match idx fr' k with | some j => ι' (.n j) | none => ι' (.l k)
    | .o i => ι' (.o i)
    | .n _ => []
  have old : ∀ k, k ∈ fr → ι' (.l k) = [] := fun k hk => p3 (.l k) (q7.2 k hk) (by simp)
  have inmem : ∀ {k j : Nat}, idx fr' k = some j → k ∈ fr := fun hj => List.mem_of_mem_take (List.mem_of_getElem? (idx_some hj))
  have hren : ∀ (id : Id) (g : Nat) (loc : Loc), (ι' id)[g]? = some loc → (ι2 (nu fr id))[g]? = some loc := by
    intro id g loc hx
    cases id with
    | o i => exact hx
    | n j =>
      by_cases hj : j < N.length
      · show (ι2 (.l (fr.getD j 0)))[g]? = _
        simp only [ι2, idx_nodup hnd' (hfr' j hj)]
        exact hx
      · rw [p3n j (by omega)] at hx; simp at hx
    | l k =>
      show (ι2 (.l k))[g]? = _
      cases hk : idx fr' k with
      | some j => rw [old k (inmem hk)] at hx; simp at hx
      | none => simp only [ι2, hk]; exact hx
  have hle : ∀ (id : Id) (g : Nat) (loc : Loc), (ι id)[g]? = some loc → (ι2 id)[g]? = some loc := by
    intro id g loc hx
    cases id with
    | o i => exact p2 _ _ _ hx
    | n j => rw [q8 j] at hx; simp at hx
    | l k =>
      cases hk : idx fr' k with
      | some j => rw [q7.2 k (inmem hk)] at hx; simp at hx
      | none => simp only [ι2, hk]; exact p2 _ _ _ hx
  have hD : Den E' ι2 (hp h3 (addN (nu fr) fr N (renB (nu fr) L3))) w1 := by
    refine p4.rename (fun i => match i with | .l k => (match idx fr' k with | some j => .n j | none => .l k) | i => i) (fun i b hb => ?_) (fun i i' b b' hb hb' e => ?_)
    · cases i with
      | l k =>
        simp only [hp, getB_addN _ _ _ _ _ hN] at hb
        cases hk : idx fr' k with
        | some j =>
          have hk' : idx (List.take N.length fr) k = some j := hk
          simp only [hk', Option.map_eq_some_iff] at hb
          obtain ⟨b0, hb0, rfl⟩ := hb
          have hj : j < N.length := (List.getElem?_eq_some_iff.1 hb0).1
          have hkj : fr.getD j 0 = k := by
            have := idx_some hk
            rw [hfr' j hj] at this
            exact Option.some.inj this
          refine ⟨b0, by simp only [hk]; exact hb0, by simp only [ι2, hk], ?_⟩
          have := BlkOk.ren' (id := .n j) (ι' := ι2) (nu fr) hren (by simp only [nu, hkj, ι2, hk]) (p4.ok (.n j) b0 hb0)
          simp only [nu, hkj] at this
          exact this
        | none =>
          have hk' : idx (List.take N.length fr) k = none := hk
          simp only [hk', getB_renB, Option.map_eq_some_iff] at hb
          obtain ⟨b0, hb0, rfl⟩ := hb
          refine ⟨b0, by simp only [hk]; exact hb0, by simp only [ι2, hk], ?_⟩
          exact BlkOk.ren' (id := .l k) (ι' := ι2) (nu fr) hren (by simp only [nu, ι2, hk]) (p4.ok (.l k) b0 hb0)
      | o i =>
        refine ⟨b, hb, rfl, ?_⟩
        have hb' := hb
        simp only [hp, Option.map_eq_some_iff] at hb'
        obtain ⟨b0, hb0, rfl⟩ := hb'
        have := BlkOk.ren' (id := .o i) (ι' := ι2) (nu fr) hren rfl (p4.ok (.o i) _ hb)
        rw [Blk.ren_ren] at this
        exact this
      | n j => simp [hp] at hb
    · cases i with
      | l k =>
        cases i' with
        | l k' =>
          dsimp only at e
          cases hk : idx fr' k with
          | some j =>
            cases hk' : idx fr' k' with
            | some j' =>
              rw [hk, hk'] at e
              cases e
              have := idx_some hk
              rw [idx_some hk'] at this
              cases this
              rfl
            | none => rw [hk, hk'] at e; cases e
          | none =>
            cases hk' : idx fr' k' with
            | some j' => rw [hk, hk'] at e; cases e
            | none => rw [hk, hk'] at e; exact e
        | o i' =>
          dsimp only at e
          cases hk : idx fr' k <;> rw [hk] at e <;> cases e
        | n j => simp [hp] at hb'
      | o i =>
        cases i' with
        | l k' =>
          dsimp only at e
          cases hk : idx fr' k' <;> rw [hk] at e <;> cases e
        | o i' => exact e
        | n j => simp [hp] at hb'
      | n j => simp [hp] at hb
  refine ⟨v, w1, E', ι2, r.ren (nu fr), h3, _, fr.drop N.length, .head henter (Steps.trans s1 (.one ?_)), p1, hle, fun i x => p3 (.o i) x (by simp), hD, p5.ren' (nu fr) hren, ⟨(List.drop_sublist _ _).nodup q7.1, fun k hk => by
    have hnot : idx fr' k = none := by
      cases hx : idx fr' k with
      | none => rfl
      | some j =>
        exfalso
        have h1 : k ∈ fr' := List.mem_of_getElem? (idx_some hx)
        have := List.nodup_append.1 (by rw [List.take_append_drop]; exact q7.1 : (fr.take N.length ++ fr.drop N.length).Nodup)
        exact this.2.2 k h1 k hk rfl
    simp only [ι2, hnot]
    exact old k (List.mem_of_mem_drop hk)⟩, fun _ => rfl, hW⟩
  rw [← hfin]; exact step_leave_returned s3
theorem SemW.call {ks ks' : List Item} {T : Tm} {L : Lh} {fr : List Nat} {f : FuncId} {args : List AV} {d : Nat} {g : Func} (hc : callOf ks T = some (f, args, d, ks')) (hd : Nat.blt d fn.ntmps = true) (hf : P.funcs[f]? = some g) (hname : (g.name == "runtime.NumGoroutine") = false) (hb : g.body.isSome = true)
    (hh : SemC P f args (hp h L) fun r h2 N => ∃ h3 L3, h2 = hp h3 L3 ∧ N.length ≤ fr.length ∧ SemW P fid fn Kt Q h3 ks' ((d, r.ren (nu fr)) :: T) (addN (nu fr) fr N (renB (nu fr) L3)) (fr.drop N.length)) : SemW P fid fn Kt Q h ks T L fr := by
  obtain ⟨ops, i, is, rest, o, c, x, caps, vs, rfl, rfl, ho, hw, hop, hcal, hx, hvs, rfl, hdst⟩ := callOf_some hc
  refine SemW.run1 (fun _ _ _ h => h) (fun d' hd' => by rw [hdst] at hd'; cases hd'; exact Nat.blt_eq.mp hd) (OpRun.call ho hw hop hcal hx hvs hf hname hb ?_)
  rw [hdst]
  exact hh
/-- A call that leaves the heap as it was, and hands back what needs no memory. -/
theorem SemW.call0 {ks ks' : List Item} {T : Tm} {L : Lh} {fr : List Nat} {f : FuncId} {args : List AV} {d : Nat} {g : Func} (hc : callOf ks T = some (f, args, d, ks')) (hd : Nat.blt d fn.ntmps = true) (hf : P.funcs[f]? = some g) (hname : (g.name == "runtime.NumGoroutine") = false) (hb : g.body.isSome = true)
    (hh : SemC P f args (hp h L) fun r h2 N => h2 = hp h L ∧ N = [] ∧ ∃ r', r = r' ∧ r'.ren (nu fr) = r' ∧ renB (nu fr) L = L ∧ SemW P fid fn Kt Q h ks' ((d, r') :: T) L fr) : SemW P fid fn Kt Q h ks T L fr := by
  refine SemW.call hc hd hf hname hb ?_
  intro E ι vs w d hno hl hr
  refine (hh E ι vs w d hno hl hr).mono fun e w' he => ?_
  obtain ⟨v, rfl, E', ι', r, h2, N, p1, p2, p3, p3n, p4, p5, h1, rfl, r', rfl, h2', h3, h4⟩ := he
  exact ⟨v, rfl, E', ι', r, h2, [], p1, p2, p3, p3n, p4, p5, h, L, h1, Nat.zero_le _, by rw [h2', h3]; cases fr <;> exact h4⟩
end
end Go.AM
set_option linter.unusedVariables false
set_option linter.unusedSimpArgs false
namespace Go.AM
variable {P : Program}
def resF (tmps : Array Value) : ResultVar → Sem Value
  | .tmp t => pure (tmps.getD t undef)
  | .cell a t => do loadVar t (← asAddr (tmps.getD a undef))
theorem run_loadAt_addr {t : TypeId} {v r : Value} {w : World} (h : (Instr.loadAt t v).run P w = .ok r w) : (do loadVar t (← asAddr v) : Sem Value).run P w = .ok r w := by
  cases v with
  | pointer a =>
    cases a with
    | none => simp [Instr.loadAt, Instr.sureAddr, stuck] at h
    | some a => simpa [Instr.loadAt, Instr.sureAddr, asAddr] using h
  | _ => simp [Instr.loadAt, Instr.sureAddr, stuck] at h
theorem resK_sound {ty : TypeId → TI} (hty : TyOk P ty) {T : Tm} {L : Lh} : ∀ (rs : List ResultVar) (k : List AV → Option AV) (r : AV), resK ty T L rs k = some r → ∃ vs, k vs = some r ∧ ∀ (E : Env) (ι : Io) (h : Hp) (w : World) (tmps : Array Value), TOk E ι T tmps → Den E ι (hp h L) w →
    ∃ us : List Value, (rs.mapM (resF tmps)).run P w = .ok us w ∧ vs.length = us.length ∧ ∀ i, i < vs.length → Rel E ι (vs.getD i .bot) (us.getD i undef)
  | [], k, r, hk => ⟨[], hk, fun E ι h w tmps _ _ => ⟨[], rfl, rfl, fun i hi => by simp at hi⟩⟩
  | .tmp t :: rs, k, r, hk => by
    simp only [resK, getK_eq] at hk
    obtain ⟨vs, h1, h2⟩ := resK_sound hty rs _ r hk
    refine ⟨get T t :: vs, h1, fun E ι h w tmps hT hD => ?_⟩
    obtain ⟨us, r1, r2, r3⟩ := h2 E ι h w tmps hT hD
    refine ⟨tmps.getD t undef :: us, ?_, by simp [r2], fun i hi => ?_⟩
    · rw [List.mapM_cons]
      simp only [resF, Sem.run_bind, Sem.run_pure, Result.andThen_ok, r1]
    · cases i with
      | zero => exact hT t
      | succ i => simpa using r3 i (by simpa using hi)
  | .cell a t :: rs, k, r, hk => by
    simp only [resK, getK_eq] at hk
    rcases loadK_sound hty L t (get T a) none (fun v => resK ty T L rs fun vs => k (v :: vs)) with e | ⟨v, e, hl⟩
    · rw [e] at hk; cases hk
    · rw [e] at hk
      obtain ⟨vs, h1, h2⟩ := resK_sound hty rs _ r hk
      refine ⟨v :: vs, h1, fun E ι h w tmps hT hD => ?_⟩
      obtain ⟨us, r1, r2, r3⟩ := h2 E ι h w tmps hT hD
      obtain ⟨q, q1, q2⟩ := hl E ι h w _ hD (hT a)
      refine ⟨q :: us, ?_, by simp [r2], fun i hi => ?_⟩
      · rw [List.mapM_cons]
        have := run_loadAt_addr q1
        simp only [Sem.run_bind] at this
        simp only [resF, Sem.run_bind, this, Result.andThen_ok, Sem.run_pure, r1]
      · cases i with
        | zero => exact q2
        | succ i => simpa using r3 i (by simpa using hi)
theorem retOf_sound {ty : TypeId → TI} (hty : TyOk P ty) {fn : Func} {T : Tm} {L : Lh} {r : AV} (hr : retOf ty fn T L = some r) {E : Env} {ι : Io} {h : Hp} {w : World} {tmps : Array Value} (hT : TOk E ι T tmps) (hD : Den E ι (hp h L) w) : ∃ v, (results fn tmps).run P w = .ok v w ∧ Rel E ι r v := by
  obtain ⟨vs, h1, h2⟩ := resK_sound hty _ _ _ hr
  obtain ⟨us, r1, r2, r3⟩ := h2 E ι h w tmps hT hD
  have hrun : (results fn tmps).run P w = .ok (if h : us.toArray.size = 1 then us.toArray[0] else .tuple us.toArray) w := by
    have e : results fn tmps = (do let vs ← fn.results.mapM (resF tmps); pure (if h : vs.size = 1 then vs[0] else .tuple vs)) := by
      unfold results
      congr 1
    rw [e, Sem.run_bind, Array.mapM_eq_mapM_toList]
    simp only [Sem.run_map, r1]
    rfl
  refine ⟨_, hrun, ?_⟩
  split at h1
  · rename_i v
    cases h1
    have hl : us.length = 1 := by simpa using r2.symm
    rw [dif_pos (by simpa using hl)]
    have := r3 0 (by simp)
    obtain ⟨u, rfl⟩ := List.length_eq_one_iff.1 hl
    simpa using this
  · rename_i hne
    cases h1
    have hl : us.length ≠ 1 := by
      intro e
      rw [← r2] at e
      obtain ⟨v, hv⟩ := List.length_eq_one_iff.1 e
      exact hne v hv
    rw [dif_neg (by simpa using hl)]
    exact .tup vs us.toArray (by simpa using r2) (fun i hi => by simpa using r3 i hi)
/-- names of blocks that are handed back -/
def si (sel : List Nat) : Id → Id
  | .l k => match idx sel k with | some j => .n j | none => .l k
  | i => i
def selB (L : Lh) : List Nat → Option (List Blk)
  | [] => some []
  | k :: sel => match getB L k with
    | some b => match selB L sel with
      | some N => some (b :: N)
      | none => none
    | none => none
def avoidN (p : Nat → Bool) : List Blk → Bool
  | [] => true
  | b :: N => b.avoid p && avoidN p N
theorem avoidN_get (p : Nat → Bool) : ∀ (N : List Blk) (j : Nat) (b : Blk), avoidN p N = true → N[j]? = some b → b.avoid p = true
  | [], _, _, _, h => by simp at h
  | c :: N, 0, b, h, hb => by simp only [avoidN, Bool.and_eq_true] at h; simp at hb; subst hb; exact h.1
  | c :: N, j + 1, b, h, hb => by simp only [avoidN, Bool.and_eq_true] at h; exact avoidN_get p N j b h.2 (by simpa using hb)
theorem selB_get {L : Lh} : ∀ {sel : List Nat} {N : List Blk}, selB L sel = some N → N.length = sel.length ∧ ∀ (j : Nat) (b : Blk), N[j]? = some b → ∃ k, sel[j]? = some k ∧ getB L k = some b
  | [], N, h => by cases h; exact ⟨rfl, fun j b hb => by simp at hb⟩
  | k :: sel, N, h => by
    simp only [selB] at h
    split at h
    · rename_i b hb
      split at h
      · rename_i N' hN
        cases h
        obtain ⟨h1, h2⟩ := selB_get hN
        refine ⟨by simp [h1], fun j c hc => ?_⟩
        cases j with
        | zero => simp at hc; subst hc; exact ⟨k, rfl, hb⟩
        | succ j => simpa using h2 j c (by simpa using hc)
      · cases h
    · cases h
section
variable {fid : FuncId} {fn : Func} {Kt : Trk} {Q : AV → Hp → List Blk → Prop} {h : Hp}
theorem memN_mem : ∀ (l : List Nat) (k : Nat), memN l k = true → k ∈ l
  | [], _, h => by cases h
  | a :: l, k, h => by
    simp only [memN] at h
    cases hb : Nat.beq a k with
    | true => rw [Nat.eq_of_beq_eq_true hb]; exact List.mem_cons_self
    | false => rw [hb] at h; exact List.mem_cons_of_mem _ (memN_mem l k h)
def trkKeys : Trk → List Nat
  | [] => []
  | (k, _) :: K => k :: trkKeys K
theorem trkKeys_get : ∀ {K : Trk} {j k : Nat} {p : List Loc}, K[j]? = some (k, p) → (trkKeys K)[j]? = some k
  | [], j, _, _, h => by simp at h
  | (q, r) :: K, 0, k, p, h => by simp at h; simp [trkKeys, h.1]
  | (q, r) :: K, j + 1, k, p, h => by simpa [trkKeys] using trkKeys_get (K := K) (by simpa using h)
/-- A return: the blocks named by sel are handed back, the others are forgotten. -/
theorem SemW.retK {ty : TypeId → TI} (hty : TyOk P ty) (hf : P.funcs[fid]? = some fn) {ks : List Item} {T : Tm} {L : Lh} {fr : List Nat} {r : AV} (sel : List Nat) {N : List Blk} (hk : atRet ks = true) (hr : retOf ty fn T L = some r) (hN : selB L sel = some N) (hnd : sel.Nodup)
    (ar : r.avoid (fun k => !(memN sel k)) = true) (aN : avoidN (fun k => !(memN sel k)) N = true) (hKs : trkKeys Kt = sel.take Kt.length) (hQ : Q (r.ren (si sel)) h (N.map (Blk.ren (si sel)))) : SemW P fid fn Kt Q h ks T L fr := by
  intro E ι a w b cs q1 q2 q3 q4 q5 q6 q7 q8
  obtain ⟨v, hv, hrel⟩ := retOf_sound hty hr q5 q6
  have hsteps : ∃ todo, Steps P (lone (b.at a ks) cs w) (lone { b.at a todo with mode := .returning } cs w) := by
    unfold atRet at hk
    split at hk
    · exact ⟨_, .one step_end⟩
    · exact ⟨_, .one step_ret⟩
    · cases hk
  obtain ⟨todo, hs⟩ := hsteps
  refine ⟨w, _, v, hs, q1, ⟨rfl, q3, q2, fn, by rw [← hf, ← q1]; rfl, hv⟩, ?_⟩
  let ι2 : Io := fun i => match i with
    | .n j => match sel[j]? with | some k => ι (.l k) | none => []
    | .o i => ι (.o i)
    | .l _ => []
  obtain ⟨hl, hsel⟩ := selB_get hN
  have hren : ∀ (id : Id) (g : Nat) (loc : Loc), (∀ k, id = .l k → (!(memN sel k)) = false) → (ι id)[g]? = some loc → (ι2 (si sel id))[g]? = some loc := by
    intro id g loc hp hx
    cases id with
    | o i => exact hx
    | n j => rw [q8.1 j] at hx; simp at hx
    | l k =>
      have hm : memN sel k = true := by simpa using hp k rfl
      obtain ⟨j, hj⟩ := idx_mem (memN_mem _ _ hm)
      simp only [si, hj, ι2, idx_some hj]
      exact hx
  refine ⟨E, ι2, r.ren (si sel), h, N.map (Blk.ren (si sel)), Env.le.refl E, fun i g l x => x, fun i x => x, fun k => rfl, fun j hj => ?_, ?_, hrel.ren (si sel) _ hren ar, hQ, fun j k p hk g loc hg => ?_⟩
  · have : sel[j]? = none := List.getElem?_eq_none (by simp at hj; omega)
    simp only [ι2, this]
  · refine q6.rename (fun i => match i with | .n j => .l (sel.getD j 0) | i => i) (fun i b hb => ?_) (fun i i' b b' hb hb' e => ?_)
    · cases i with
      | n j =>
        simp only [hpN, List.getElem?_map, Option.map_eq_some_iff] at hb
        obtain ⟨b0, hb0, rfl⟩ := hb
        obtain ⟨k, hk1, hk2⟩ := hsel j b0 hb0
        have e : sel.getD j 0 = k := by simp [hk1]
        refine ⟨b0, by simp only [e]; exact hk2, by simp only [ι2, hk1, e], ?_⟩
        have hj := idx_nodup hnd hk1
        have := BlkOk.ren (id := .l k) (ι' := ι2) (si sel) _ hren (avoidN_get _ _ _ _ aN hb0) (by simp only [si, hj, ι2, hk1]) (q6.ok (.l k) b0 hk2)
        simp only [si, hj] at this
        exact this
      | o i =>
        refine ⟨b, hb, rfl, ?_⟩
        have hb' := hb
        simp only [hpN, Option.map_eq_some_iff] at hb'
        obtain ⟨b0, hb0, rfl⟩ := hb'
        obtain ⟨h1, h2⟩ : (∀ (id : Id) (g : Nat) (loc : Loc), (ι (.o id))[g]? = some loc → (ι2 (.o id))[g]? = some loc) ∧ True := ⟨fun _ _ _ x => x, trivial⟩
        have := BlkOk.ren' (id := .o i) (ι' := ι2) (fun i => match i with | .o i => .o i | .l k => .o (.l k) | .n j => .o (.n j)) (b := b0.ren .o) (E := E) (w := w) (ι := fun i => match i with | .o i => ι (.o i) | _ => []) (fun id g loc x => by
          cases id with
          | o i => exact x
          | l k => simp at x
          | n j => simp at x) rfl (by
            have := q6.ok (.o i) _ hb
            -- the blocks of the caller speak of the caller's names alone
            have back : ∀ {a : AV} {v : Value}, Rel E ι (a.ren .o) v → Rel E (fun i => match i with | .o i => ι (.o i) | _ => []) (a.ren .o) v := by
              intro a v hx
              have := hx.ren (ι' := fun i => match i with | .o i => ι (.o i) | _ => []) (fun i => i) (fun _ => true) (fun id g loc hp hh => by
                cases id with
                | o i => exact hh
                | l k => exact absurd (hp k rfl) (by simp)
                | n j => rw [q8.1 j] at hh; simp at hh) (AV.rec (motive_1 := fun a => (a.ren .o).avoid (fun _ => true) = true) (motive_2 := fun l => avoidL (fun _ => true) (renL .o l) = true) rfl (fun _ => rfl) (fun _ h => h) (fun _ h => h) (fun _ _ h => h) (fun _ _ => rfl) (fun _ _ _ _ _ => rfl) (fun _ _ _ _ _ => rfl) (fun _ _ _ _ _ _ => rfl) (fun _ _ _ _ _ => rfl) rfl (fun _ _ h1 h2 => by simp only [renL, avoidL, h1, h2]; rfl) a)
              rwa [AV.ren_id _ (fun _ => rfl)] at this
            cases b0 with
            | obj cs =>
              obtain ⟨loc, vs, g1, g2, g3, g4, g5⟩ := this
              refine ⟨loc, vs, g1, g2, g3, g4, fun i hi => ?_⟩
              have := g5 i hi
              rw [renL_getD] at this ⊢
              exact back this
            | arr ag g c n f => exact this)
        rw [Blk.ren_ren] at this
        exact this
      | l k => simp [hpN] at hb
    · cases i with
      | n j =>
        cases i' with
        | n j' =>
          simp only [Id.l.injEq] at e
          simp only [hpN, List.getElem?_map, Option.map_eq_some_iff] at hb hb'
          obtain ⟨b0, hb0, _⟩ := hb
          obtain ⟨b1, hb1, _⟩ := hb'
          obtain ⟨k, hk1, _⟩ := hsel j b0 hb0
          obtain ⟨k', hk1', _⟩ := hsel j' b1 hb1
          have e1 : sel.getD j 0 = k := by simp [hk1]
          have e2 : sel.getD j' 0 = k' := by simp [hk1']
          rw [e1, e2] at e
          subst e
          have h1 := idx_nodup hnd hk1
          have h2 := idx_nodup hnd hk1'
          rw [h1] at h2
          cases h2
          rfl
        | o i' => cases e
        | l k => simp [hpN] at hb'
      | o i =>
        cases i' with
        | n j => cases e
        | o i' => exact e
        | l k => simp [hpN] at hb'
      | l k => simp [hpN] at hb
  · have h1 := trkKeys_get hk
    rw [hKs] at h1
    have h2 : sel[j]? = some k := by
      rw [List.getElem?_take] at h1
      split at h1
      · exact h1
      · cases h1
    simp only [ι2, h2]
    exact q8.2 k p (List.mem_of_getElem? hk) g loc hg
/-- .. where none is followed -/
theorem SemW.ret {ty : TypeId → TI} (hty : TyOk P ty) (hf : P.funcs[fid]? = some fn) {ks : List Item} {T : Tm} {L : Lh} {fr : List Nat} {r : AV} (sel : List Nat) {N : List Blk} (hk : atRet ks = true) (hr : retOf ty fn T L = some r) (hN : selB L sel = some N) (hnd : sel.Nodup)
    (ar : r.avoid (fun k => !(memN sel k)) = true) (aN : avoidN (fun k => !(memN sel k)) N = true) (hQ : Q (r.ren (si sel)) h (N.map (Blk.ren (si sel)))) : SemW P fid fn [] Q h ks T L fr := SemW.retK hty hf sel hk hr hN hnd ar aN rfl hQ
/-- A return of what needs no block of this call's. -/
theorem SemW.ret0 {ty : TypeId → TI} (hty : TyOk P ty) (hf : P.funcs[fid]? = some fn) {ks : List Item} {T : Tm} {L : Lh} {fr : List Nat} {r : AV} (hk : atRet ks = true) (hr : retOf ty fn T L = some r)
    (ar : r.avoid (fun _ => true) = true) (hQ : Q r h []) : SemW P fid fn [] Q h ks T L fr := by
  refine SemW.ret hty hf [] (N := []) hk hr rfl List.nodup_nil ar rfl ?_
  have : r.ren (si []) = r := AV.ren_id _ (fun i => by cases i <;> rfl) r
  rw [this]
  exact hQ
end
end Go.AM
