/- Part 3 of the proof of the row StripeRound: written for this claim by the session and by a program of its own. -/
import Derived.Test.YtipjnfljkknmgaaCStripeRoundp2
import Derived.Test.YtipjnfljkknmgaaProg
import Derived.Test.YtipjnfljkknmgaaChecked
set_option linter.unusedVariables false
set_option linter.unusedSimpArgs false
open Go Go.AM
namespace Go.AM
structure Pl where
  node : Int
  serial : Int
  deriving DecidableEq
instance : Inhabited Pl := ⟨⟨0, 0⟩⟩
def encP (p : Pl) : AV := .agg [.val (.int .i64 p.node), .val (.int .u64 p.serial)]
def sP (l : List Pl) : AV := .vs true 2 l.length (fun i => encP (l.getD i ⟨0, 0⟩))
structure Fr where
  first : Int
  books : List Pl
  deriving DecidableEq
instance : Inhabited Fr := ⟨⟨0, []⟩⟩
def encF (f : Fr) : AV := .agg [.val (.int .u64 f.first), sP f.books]
def sF (l : List Fr) : AV := .vs true 2 l.length (fun i => encF (l.getD i ⟨0, []⟩))
def fresh : List Nat := [0, 1, 2, 3, 4, 5, 6, 7, 8, 9]
theorem fresh_nodup : fresh.Nodup := by decide
def fresh1 : List Nat := [1, 2, 3, 4, 5, 6, 7, 8, 9]
theorem fresh1_nodup : fresh1.Nodup := by decide
theorem incI {i : Nat} (h : i < 2^62) : AV.val (.int .i64 (IntKind.i64.wrap ((i:Int) + 1))) = aint ((i + 1 : Nat) : Int) := by
  rw [wrap_i64 (by omega) (by omega)]; rfl
theorem incU {i : Nat} (h : i < 2^63) : AV.val (.int .u64 (IntKind.u64.wrap ((i:Int) + 1))) = .val (.int .u64 ((i + 1 : Nat) : Int)) := by
  rw [wrap_u64 (by omega) (by omega)]; rfl
theorem avoid_ren : ∀ (p : Nat → Bool), (∀ a : AV, (a.ren .o).avoid p = true) ∧ (∀ l : List AV, avoidL p (renL .o l) = true) := fun p => by
  have key : ∀ a : AV, (a.ren .o).avoid p = true := fun a =>
    AV.rec (motive_1 := fun a => (a.ren .o).avoid p = true) (motive_2 := fun l => avoidL p (renL .o l) = true) rfl (fun _ => rfl) (fun _ h => h) (fun _ h => h) (fun _ _ h => h) (fun _ _ => rfl) (fun _ _ _ _ _ => rfl) (fun _ _ _ _ _ => rfl) (fun _ _ _ _ _ _ => rfl) (fun _ _ _ _ _ => rfl) rfl (fun _ _ h1 h2 => by simp only [renL, avoidL, h1, h2]; rfl) a
  refine ⟨key, fun l => ?_⟩
  induction l with
  | nil => rfl
  | cons a l ih => simp only [renL, avoidL, key a, ih]; rfl
theorem avoid_caps {caps : List AV} (h : renL .o caps = caps) (p : Nat → Bool) : avoidL p caps = true := by rw [← h]; exact (avoid_ren p).2 caps
theorem blt_zero (n : Nat) : Nat.blt n 0 = false := by
  cases hb : Nat.blt n 0 with
  | false => rfl
  | true => have := Nat.blt_eq.mp hb; omega
def lastF (l : List Fr) (is : Fr → Bool) : Fr := ((l.filter is).getLast?).getD ⟨0, []⟩
theorem lastF_take {l : List Fr} {is : Fr → Bool} {i : Nat} (h : i < l.length) : lastF (l.take (i + 1)) is = (if is l[i] then l[i] else lastF (l.take i) is) ∧ (l.take (i + 1)).any is = ((l.take i).any is || is l[i]) := by
  have e : l.take (i + 1) = l.take i ++ [l[i]] := by rw [List.take_add_one, List.getElem?_eq_getElem h]; rfl
  rw [e]
  constructor
  · unfold lastF
    rw [List.filter_append]
    cases hb : is l[i] with
    | true => simp [hb]
    | false => simp [hb]
  · rw [List.any_append]
    simp
theorem lastF_mem {l : List Fr} {is : Fr → Bool} {p : Fr → Prop} (h : ∀ f ∈ l, p f) (h0 : p ⟨0, []⟩) : p (lastF l is) := by
  unfold lastF
  cases hb : (l.filter is).getLast? with
  | none => exact h0
  | some f => exact h f (List.mem_filter.1 (List.mem_of_getLast? hb)).1
abbrev P0 : Pl := ⟨0, 0⟩
def firstB (l : List Pl) (i k : Nat) : Bool := (List.range k).all fun j => !(l.getD j P0 == l.getD i P0)
def inB (l fr : List Pl) (i k : Nat) : Bool := (List.range k).any fun j => fr.getD j P0 == l.getD i P0
def amongT (l fr : List Pl) (i : Nat) : Nat := (List.range i).countP fun i => firstB l i i && inB l fr i fr.length
def amongL (l fr : List Pl) : Nat := amongT l fr l.length
theorem firstB_succ (l : List Pl) (i k : Nat) : firstB l i (k + 1) = (firstB l i k && !(l.getD k P0 == l.getD i P0)) := by
  unfold firstB; rw [List.range_succ, List.all_append]; simp
theorem inB_succ (l fr : List Pl) (i k : Nat) : inB l fr i (k + 1) = (inB l fr i k || (fr.getD k P0 == l.getD i P0)) := by
  unfold inB; rw [List.range_succ, List.any_append]; simp
theorem amongT_succ (l fr : List Pl) (i : Nat) : amongT l fr (i + 1) = amongT l fr i + (if firstB l i i && inB l fr i fr.length then 1 else 0) := by
  unfold amongT; rw [List.range_succ, List.countP_append]; simp
theorem amongT_le (l fr : List Pl) (i : Nat) : amongT l fr i ≤ i := by
  unfold amongT
  have := List.countP_le_length (p := fun i => firstB l i i && inB l fr i fr.length) (l := List.range i)
  simpa using this
theorem all_false {f : Nat → Bool} {n i : Nat} (h : i < n) (hf : f i = false) : (List.range n).all f = false := by
  rw [List.all_eq_false]
  exact ⟨i, List.mem_range.2 h, by simp [hf]⟩
theorem all_succ {f : Nat → Bool} {n : Nat} (h : (List.range n).all f = true) (hf : f n = true) : (List.range (n + 1)).all f = true := by
  rw [List.range_succ, List.all_append, h]
  simp [hf]
abbrev F0 : Fr := ⟨0, []⟩
def longF (l : List Fr) : Bool := decide ((l.length : Int) > 30) || (List.range l.length).any fun i => decide (((l.getD i F0).books.length : Int) > 30)
def placeB (p : Pl) : Bool := decide (p.node > 0) && (decide (p.node ≤ 15) && (decide (p.serial > 0) && decide (p.serial ≤ 4611686018427387903)))
def unlikeB (b : List Pl) (q k : Nat) : Bool := (List.range k).all fun j => !((b.getD j P0).node == (b.getD q P0).node)
def booksB (b : List Pl) (k : Nat) : Bool := (List.range k).all fun q => placeB (b.getD q P0) && unlikeB b q q
def fragB (w : Int) (l : List Fr) (i : Nat) : Bool := !(decide ((l.getD i F0).first > 9)) && (!(decide ((i : Int) > 0) && decide ((l.getD i F0).first ≤ (l.getD (i - 1) F0).first)) && (!(decide (((l.getD i F0).books.length : Int) < w)) && (!(decide (((l.getD i F0).books.length : Int) > 5)) && booksB (l.getD i F0).books (l.getD i F0).books.length)))
def mayB (w : Int) (l : List Fr) : Bool := !(decide ((l.length : Int) < 1)) && (!(decide ((l.length : Int) > 6)) && (((l.getD 0 F0).first == 1) && (List.range l.length).all (fragB w l)))
/-- rows of places -/
def sR (l : List (List Pl)) : AV := .vs false 1 l.length (fun i => sP (l.getD i []))
def longB (l : List Fr) (w : Int) (rows : List (List Pl)) : Bool := longF l || (decide (w > 1000) || (List.range rows.length).any fun i => decide (((rows.getD i []).length : Int) > 60))
theorem any_true {f : Nat → Bool} {n i : Nat} (h : i < n) (hf : f i = true) : (List.range n).any f = true := List.any_eq_true.2 ⟨i, List.mem_range.2 h, hf⟩
theorem any_succ {f : Nat → Bool} {n : Nat} (h : (List.range n).any f = false) (hf : f n = false) : (List.range (n + 1)).any f = false := by
  rw [List.range_succ, List.any_append, h]
  simp [hf]
/-- one element appended -/
theorem app1 {f f' : Nat → AV} {z v : AV} {i : Nat} (h : ∀ j, j < i → f j = f' j) (hv : v = f' i) : ∀ j, j < i + 1 → (bif Nat.blt j i then f (0 + j) else fillE (fun _ => z) [(0, v)] (0 + (j - i))) = f' j := by
  intro j hj
  cases hb : Nat.blt j i with
  | true =>
    have := Nat.blt_eq.mp hb
    simp only [cond_true, Nat.zero_add]
    exact h j this
  | false =>
    have hge : i ≤ j := Nat.le_of_not_lt fun hlt => by rw [← Nat.blt_eq, hb] at hlt; cases hlt
    have : j = i := by omega
    subst this
    simp [fillE, hv]
theorem AvLe.sP {l : List Pl} {n : Nat} {f : Nat → AV} (hn : n = l.length) (hf : ∀ i, i < n → f i = encP (l.getD i ⟨0, 0⟩)) : AvLe (.vs true 2 n f) (sP l) := AvLe.vs hn hf
end Go.AM
set_option linter.unusedVariables false
set_option linter.unusedSimpArgs false
open Go Go.AM
namespace Go.Proofs.Try
set_option maxRecDepth 100000
set_option maxHeartbeats 4000000
def tabT : Nat → TI
  | 1 => ⟨true, .other, 1, false, [.nilFunc], 8, false⟩
  | 2 => ⟨true, .int .i64, 1, false, [.int .i64 0], 8, false⟩
  | 3 => ⟨true, .int .i64, 1, false, [.int .i64 0], 8, false⟩
  | 4 => ⟨true, .bool, 1, false, [.bool false], 1, false⟩
  | 5 => ⟨true, .int .u8, 1, false, [.int .u8 0], 1, false⟩
  | 9 => ⟨true, .string, 1, false, [.string ByteArray.empty], 16, false⟩
  | 12 => ⟨true, .int .u64, 1, false, [.int .u64 0], 8, false⟩
  | 15 => ⟨true, .ptr 84, 1, false, [.pointer none], 8, false⟩
  | 16 => ⟨true, .ptr 87, 1, false, [.pointer none], 8, false⟩
  | 17 => ⟨true, .ptr 97, 1, false, [.pointer none], 8, false⟩
  | 21 => ⟨true, .int .i32, 1, false, [.int .i32 0], 4, false⟩
  | 22 => ⟨true, .int .u64, 1, false, [.int .u64 0], 8, false⟩
  | 23 => ⟨true, .slice 32, 1, false, [.slice none 0 0], 24, false⟩
  | 24 => ⟨true, .struct [(0, 22), (1, 23)], 2, true, [.int .u64 0, .slice none 0 0], 32, false⟩
  | 25 => ⟨true, .struct [(0, 22), (1, 23)], 2, true, [.int .u64 0, .slice none 0 0], 32, false⟩
  | 26 => ⟨true, .other, 1, false, [.nilFunc], 8, false⟩
  | 27 => ⟨true, .slice 25, 1, false, [.slice none 0 0], 24, false⟩
  | 28 => ⟨true, .other, 1, false, [.nilFunc], 8, false⟩
  | 29 => ⟨true, .other, 1, false, [.nilFunc], 8, false⟩
  | 30 => ⟨true, .other, 1, false, [.nilFunc], 8, false⟩
  | 31 => ⟨true, .struct [(0, 3), (1, 22)], 2, true, [.int .i64 0, .int .u64 0], 16, true⟩
  | 32 => ⟨true, .struct [(0, 3), (1, 22)], 2, true, [.int .i64 0, .int .u64 0], 16, true⟩
  | 33 => ⟨true, .other, 1, false, [.nilFunc], 8, false⟩
  | 34 => ⟨true, .other, 1, false, [.nilFunc], 8, false⟩
  | 35 => ⟨true, .other, 1, false, [.nilFunc], 8, false⟩
  | 36 => ⟨true, .array 16 3, 16, true, [.int .i64 0, .int .i64 0, .int .i64 0, .int .i64 0, .int .i64 0, .int .i64 0, .int .i64 0, .int .i64 0, .int .i64 0, .int .i64 0, .int .i64 0, .int .i64 0, .int .i64 0, .int .i64 0, .int .i64 0, .int .i64 0], 128, false⟩
  | 37 => ⟨true, .other, 1, false, [.nilFunc], 8, false⟩
  | 38 => ⟨true, .other, 1, false, [.nilFunc], 8, false⟩
  | 39 => ⟨true, .other, 1, false, [.nilFunc], 8, false⟩
  | 40 => ⟨true, .other, 1, false, [.nilFunc], 8, false⟩
  | 41 => ⟨true, .other, 1, false, [.nilFunc], 8, false⟩
  | 42 => ⟨true, .other, 1, false, [.nilFunc], 8, false⟩
  | 43 => ⟨true, .other, 1, false, [.nilFunc], 8, false⟩
  | 44 => ⟨true, .other, 1, false, [.nilFunc], 8, false⟩
  | 45 => ⟨true, .other, 1, false, [.nilFunc], 8, false⟩
  | 46 => ⟨true, .slice 3, 1, false, [.slice none 0 0], 24, false⟩
  | 47 => ⟨true, .int .i64, 1, false, [.int .i64 0], 8, false⟩
  | 49 => ⟨true, .other, 1, false, [.nilFunc], 8, false⟩
  | 50 => ⟨true, .other, 1, false, [.nilFunc], 8, false⟩
  | 51 => ⟨true, .other, 1, false, [.nilFunc], 8, false⟩
  | 53 => ⟨true, .other, 1, false, [.nilFunc], 8, false⟩
  | 54 => ⟨true, .other, 1, false, [.nilFunc], 8, false⟩
  | 55 => ⟨true, .other, 1, false, [.nilFunc], 8, false⟩
  | 56 => ⟨true, .other, 1, false, [.nilFunc], 8, false⟩
  | 57 => ⟨true, .other, 1, false, [.nilFunc], 8, false⟩
  | 58 => ⟨true, .other, 1, false, [.nilFunc], 8, false⟩
  | 59 => ⟨true, .slice 23, 1, false, [.slice none 0 0], 24, false⟩
  | 60 => ⟨true, .other, 1, false, [.nilFunc], 8, false⟩
  | 61 => ⟨true, .other, 1, false, [.nilFunc], 8, false⟩
  | 62 => ⟨true, .other, 1, false, [.nilFunc], 8, false⟩
  | 63 => ⟨true, .other, 1, false, [.nilFunc], 8, false⟩
  | 64 => ⟨true, .other, 1, false, [.nilFunc], 8, false⟩
  | 65 => ⟨true, .other, 1, false, [.nilFunc], 8, false⟩
  | 66 => ⟨true, .other, 1, false, [.nilFunc], 8, false⟩
  | 67 => ⟨true, .other, 1, false, [.nilFunc], 8, false⟩
  | 68 => ⟨true, .other, 1, false, [.nilFunc], 8, false⟩
  | 69 => ⟨true, .other, 1, false, [.nilFunc], 8, false⟩
  | 70 => ⟨true, .other, 1, false, [.nilFunc], 8, false⟩
  | 71 => ⟨true, .other, 1, false, [.nilFunc], 8, false⟩
  | 72 => ⟨true, .other, 1, false, [.nilFunc], 8, false⟩
  | 73 => ⟨true, .other, 1, false, [.nilFunc], 8, false⟩
  | 74 => ⟨true, .other, 1, false, [.nilFunc], 8, false⟩
  | 75 => ⟨true, .other, 1, false, [.nilFunc], 8, false⟩
  | 76 => ⟨true, .other, 1, false, [.nilFunc], 8, false⟩
  | 77 => ⟨true, .other, 1, false, [.nilFunc], 8, false⟩
  | 78 => ⟨true, .other, 1, false, [.nilFunc], 8, false⟩
  | 79 => ⟨true, .other, 1, false, [.nilFunc], 8, false⟩
  | 80 => ⟨true, .other, 1, false, [.nilFunc], 8, false⟩
  | 81 => ⟨true, .other, 1, false, [.nilFunc], 8, false⟩
  | 82 => ⟨true, .other, 1, false, [.nilFunc], 8, false⟩
  | 85 => ⟨true, .array 0 16, 0, true, [], 0, false⟩
  | 88 => ⟨true, .other, 1, false, [.nilFunc], 8, false⟩
  | 89 => ⟨true, .int .u32, 1, false, [.int .u32 0], 4, false⟩
  | 92 => ⟨true, .other, 1, false, [.nilFunc], 8, false⟩
  | 93 => ⟨true, .ptr 5, 1, false, [.pointer none], 8, false⟩
  | 96 => ⟨true, .struct [(0, 12), (1, 12), (2, 89), (3, 90), (4, 5), (5, 5), (6, 91), (7, 92), (8, 93), (9, 94), (10, 95)], 11, true, [.int .u64 0, .int .u64 0, .int .u32 0, .int .u8 0, .int .u8 0, .int .u8 0, .int .u8 0, .nilFunc, .pointer none, .int .i32 0, .int .i32 0], 48, false⟩
  | _ => ⟨false, .other, 1, false, [], 8, false⟩
def tyT : TypeId → TI := tyOf tabT 99
theorem tyT_ok : TyOk Try.prog tyT := TyOk.of (by kernel_rfl)
@[simp] theorem bytes1 : (tyT 1).bytes = 8 := rfl
@[simp] theorem bytes2 : (tyT 2).bytes = 8 := rfl
@[simp] theorem bytes3 : (tyT 3).bytes = 8 := rfl
@[simp] theorem bytes4 : (tyT 4).bytes = 1 := rfl
@[simp] theorem bytes5 : (tyT 5).bytes = 1 := rfl
@[simp] theorem bytes9 : (tyT 9).bytes = 16 := rfl
@[simp] theorem bytes12 : (tyT 12).bytes = 8 := rfl
@[simp] theorem bytes15 : (tyT 15).bytes = 8 := rfl
@[simp] theorem bytes16 : (tyT 16).bytes = 8 := rfl
@[simp] theorem bytes17 : (tyT 17).bytes = 8 := rfl
@[simp] theorem bytes21 : (tyT 21).bytes = 4 := rfl
@[simp] theorem bytes22 : (tyT 22).bytes = 8 := rfl
@[simp] theorem bytes23 : (tyT 23).bytes = 24 := rfl
@[simp] theorem bytes24 : (tyT 24).bytes = 32 := rfl
@[simp] theorem bytes25 : (tyT 25).bytes = 32 := rfl
@[simp] theorem bytes26 : (tyT 26).bytes = 8 := rfl
@[simp] theorem bytes27 : (tyT 27).bytes = 24 := rfl
@[simp] theorem bytes28 : (tyT 28).bytes = 8 := rfl
@[simp] theorem bytes29 : (tyT 29).bytes = 8 := rfl
@[simp] theorem bytes30 : (tyT 30).bytes = 8 := rfl
@[simp] theorem bytes31 : (tyT 31).bytes = 16 := rfl
@[simp] theorem bytes32 : (tyT 32).bytes = 16 := rfl
@[simp] theorem bytes33 : (tyT 33).bytes = 8 := rfl
@[simp] theorem bytes34 : (tyT 34).bytes = 8 := rfl
@[simp] theorem bytes35 : (tyT 35).bytes = 8 := rfl
@[simp] theorem bytes36 : (tyT 36).bytes = 128 := rfl
@[simp] theorem bytes37 : (tyT 37).bytes = 8 := rfl
@[simp] theorem bytes38 : (tyT 38).bytes = 8 := rfl
@[simp] theorem bytes39 : (tyT 39).bytes = 8 := rfl
@[simp] theorem bytes40 : (tyT 40).bytes = 8 := rfl
@[simp] theorem bytes41 : (tyT 41).bytes = 8 := rfl
@[simp] theorem bytes42 : (tyT 42).bytes = 8 := rfl
@[simp] theorem bytes43 : (tyT 43).bytes = 8 := rfl
@[simp] theorem bytes44 : (tyT 44).bytes = 8 := rfl
@[simp] theorem bytes45 : (tyT 45).bytes = 8 := rfl
@[simp] theorem bytes46 : (tyT 46).bytes = 24 := rfl
@[simp] theorem bytes47 : (tyT 47).bytes = 8 := rfl
@[simp] theorem bytes49 : (tyT 49).bytes = 8 := rfl
@[simp] theorem bytes50 : (tyT 50).bytes = 8 := rfl
@[simp] theorem bytes51 : (tyT 51).bytes = 8 := rfl
@[simp] theorem bytes53 : (tyT 53).bytes = 8 := rfl
@[simp] theorem bytes54 : (tyT 54).bytes = 8 := rfl
@[simp] theorem bytes55 : (tyT 55).bytes = 8 := rfl
@[simp] theorem bytes56 : (tyT 56).bytes = 8 := rfl
@[simp] theorem bytes57 : (tyT 57).bytes = 8 := rfl
@[simp] theorem bytes58 : (tyT 58).bytes = 8 := rfl
@[simp] theorem bytes59 : (tyT 59).bytes = 24 := rfl
@[simp] theorem bytes60 : (tyT 60).bytes = 8 := rfl
@[simp] theorem bytes61 : (tyT 61).bytes = 8 := rfl
@[simp] theorem bytes62 : (tyT 62).bytes = 8 := rfl
@[simp] theorem bytes63 : (tyT 63).bytes = 8 := rfl
@[simp] theorem bytes64 : (tyT 64).bytes = 8 := rfl
@[simp] theorem bytes65 : (tyT 65).bytes = 8 := rfl
@[simp] theorem bytes66 : (tyT 66).bytes = 8 := rfl
@[simp] theorem bytes67 : (tyT 67).bytes = 8 := rfl
@[simp] theorem bytes68 : (tyT 68).bytes = 8 := rfl
@[simp] theorem bytes69 : (tyT 69).bytes = 8 := rfl
@[simp] theorem bytes70 : (tyT 70).bytes = 8 := rfl
@[simp] theorem bytes71 : (tyT 71).bytes = 8 := rfl
@[simp] theorem bytes72 : (tyT 72).bytes = 8 := rfl
@[simp] theorem bytes73 : (tyT 73).bytes = 8 := rfl
@[simp] theorem bytes74 : (tyT 74).bytes = 8 := rfl
@[simp] theorem bytes75 : (tyT 75).bytes = 8 := rfl
@[simp] theorem bytes76 : (tyT 76).bytes = 8 := rfl
@[simp] theorem bytes77 : (tyT 77).bytes = 8 := rfl
@[simp] theorem bytes78 : (tyT 78).bytes = 8 := rfl
@[simp] theorem bytes79 : (tyT 79).bytes = 8 := rfl
@[simp] theorem bytes80 : (tyT 80).bytes = 8 := rfl
@[simp] theorem bytes81 : (tyT 81).bytes = 8 := rfl
@[simp] theorem bytes82 : (tyT 82).bytes = 8 := rfl
@[simp] theorem bytes85 : (tyT 85).bytes = 0 := rfl
@[simp] theorem bytes88 : (tyT 88).bytes = 8 := rfl
@[simp] theorem bytes89 : (tyT 89).bytes = 4 := rfl
@[simp] theorem bytes92 : (tyT 92).bytes = 8 := rfl
@[simp] theorem bytes93 : (tyT 93).bytes = 8 := rfl
@[simp] theorem bytes96 : (tyT 96).bytes = 48 := rfl
theorem mixed : Try.prog.follows .mixedOrders = true := by kernel_rfl
end Go.Proofs.Try
set_option linter.unusedVariables false
set_option linter.unusedSimpArgs false
open Go Go.AM
namespace Go.Proofs.Try
set_option maxRecDepth 100000
set_option maxHeartbeats 4000000
theorem eqP (a b : Pl) : (a.node == b.node && (a.serial == b.serial && true)) = (a == b) := by
  cases a; cases b
  rw [Bool.eq_iff_iff]
  simp
end Go.Proofs.Try
set_option linter.unusedVariables false
set_option linter.unusedSimpArgs false
open Go Go.AM
namespace Go.Proofs.Try
set_option maxRecDepth 100000
set_option maxHeartbeats 4000000
theorem clone_spec (l : List Pl) (h : Hp) (Q : AV → Hp → List Blk → Prop) (hl : l.length < 2^40) (hQ : Q (sP l) h []) : SemC Try.prog 44 [sP l] h Q := by
  refine SemC.enter func44 rfl (Nat.le_of_ble_eq_true rfl) fresh fresh_nodup ?_
  refine SemW.go tyT_ok mixed ?_
  conv => arg 6; whnf
  refine Holds.mk (by simp) ?_
  refine SemW.eqNil tyT_ok rfl rfl fun b hb => ?_
  refine SemW.go tyT_ok mixed ?_
  conv => arg 6; whnf
  refine Holds.mk (by simp) ?_
  refine SemW.cond rfl (fun c1 => ?_) (fun c1 => ?_)
  · have hl0 : l = [] := by simpa using hb c1
    subst hl0
    refine SemW.go tyT_ok mixed ?_
    conv => arg 6; whnf
    refine Holds.mk (by simp) ?_
    refine SemW.weak (T' := [(2, sP [])]) (L' := []) ⟨AvLe.nil _ _ _ _, trivial⟩ trivial ?_
    refine SemW.ret0 tyT_ok func44 rfl rfl rfl ?_
    exact hQ
  · refine SemW.go tyT_ok mixed ?_
    conv => arg 6; whnf
    refine Holds.mk ((by simp; omega)) ?_
    refine SemW.frzW (T' := [(2, sP l)]) (L' := []) 0 rfl rfl ⟨AvLe.sP (by omega) (fun j _ => by simp [blt_zero]), ⟨by simp [Blk.num], rfl⟩, trivial⟩ trivial ?_
    refine SemW.ret0 tyT_ok func44 rfl rfl rfl ?_
    exact hQ
end Go.Proofs.Try
set_option linter.unusedVariables false
set_option linter.unusedSimpArgs false
open Go Go.AM
namespace Go.Proofs.Try
set_option maxRecDepth 100000
set_option maxHeartbeats 4000000
theorem frag1_spec (f : Fr) (n : Int) (h : Hp) (Q : AV → Hp → List Blk → Prop) (hQ : Q (abool (decide (f.first ≤ n))) h []) : SemC Try.prog 53 [encF f, .vp true 1 (.agg [.val (.int .u64 n)]) 0] h Q := by
  refine SemC.enter func53 rfl (Nat.le_of_ble_eq_true rfl) fresh fresh_nodup ?_
  refine SemW.go tyT_ok mixed ?_
  conv => arg 6; whnf
  refine Holds.mk (by simp) ?_
  refine SemW.ret0 tyT_ok func53 rfl rfl rfl ?_
  exact hQ
theorem last_spec (l : List Fr) (cf : Nat) (g : Func) (caps : List AV) (is : Fr → Bool) (h : Hp) (Q : AV → Hp → List Blk → Prop) (hl : l.length < 2^62) (hcaps : renL .o caps = caps) (hf : Try.prog.funcs[cf]? = some g) (hn : (g.name == "runtime.NumGoroutine") = false) (hb : g.body.isSome = true)
    (hc : ∀ p ∈ l, ∀ h Q, Q (abool (is p)) h [] → SemC Try.prog cf ([encF p] ++ caps) h Q) (hQ : Q (.tup [encF (lastF l is), abool (l.any is)]) h []) : SemC Try.prog 52 [sF l, .fn cf caps] h Q := by
  refine SemC.enter func52 rfl (Nat.le_of_ble_eq_true rfl) fresh fresh_nodup ?_
  have e : renL .o [sF l, .fn cf caps] = [sF l, .fn cf caps] := by simp [renL, AV.ren, sF, hcaps]
  rw [e]
  refine SemW.go tyT_ok mixed ?_
  conv => arg 6; whnf
  refine Holds.mk (by simp) ?_
  refine SemW.loop (X := {i : Nat // i ≤ l.length}) (fun i => [(0, sF l), (1, .fn cf caps), (4, .ptr (.l 0) 0), (5, abool ((l.take i.1).any is)), (8, sF l), (9, aint l.length), (10, aint i.1)]) (fun i => [(0, .obj [.val (.int .u64 (lastF (l.take i.1) is).first), sP (lastF (l.take i.1) is).books])]) (fun _ => fresh1) (fun i => l.length - i.1) ⟨0, Nat.zero_le _⟩ (SemW.cutW ⟨AvLe.refl _, AvLe.refl _, AvLe.refl _, AvLe.refl _, AvLe.refl _, AvLe.refl _, AvLe.refl _, trivial⟩ ⟨⟨_, rfl, BlkLe.obj ⟨AvLe.refl _, AvLe.nil _ _ _ _, trivial⟩⟩, trivial⟩ fresh1_nodup (by simp only [avoidT, AV.avoid, sF, avoid_caps hcaps]; rfl) rfl) (fun ⟨i, hi⟩ IH => ?_)
  dsimp only at hi IH ⊢
  refine SemW.go tyT_ok mixed ?_
  conv => arg 6; whnf
  refine Holds.mk (by simp) ?_
  refine SemW.cond rfl (fun c1 => ?_) (fun c1 => ?_)
  · have hil : i < l.length := by simpa using c1
    have hg : l.getD i ⟨0, []⟩ = l[i] := by simp [hil]
    refine SemW.go tyT_ok mixed ?_
    conv => arg 6; whnf
    refine Holds.mk ((by simp; exact hil)) ?_
    refine SemW.call0 rfl rfl hf hn hb ?_
    have hcall := hc l[i] (List.getElem_mem hil)
    rw [← hg] at hcall
    refine hcall _ _ ⟨rfl, rfl, _, rfl, rfl, rfl, ?_⟩
    refine SemW.go tyT_ok mixed ?_
    conv => arg 6; whnf
    refine Holds.mk (by simp) ?_
    refine SemW.cond rfl (fun c2 => ?_) (fun c2 => ?_)
    · refine SemW.go tyT_ok mixed ?_
      conv => arg 6; whnf
      refine Holds.mk (by simp) ?_
      have IH' := IH ⟨i + 1, hil⟩ (by show l.length - (i + 1) < l.length - i; omega)
      dsimp only at IH'
      refine SemW.cutW ?_ ?_ fresh1_nodup (by simp only [avoidT, AV.avoid, sF, avoid_caps hcaps]; rfl) rfl IH'
      · obtain ⟨t1, t2⟩ := lastF_take (is := is) hil
        rw [hg] at c2
        rw [c2, Bool.or_true] at t2
        rw [t2]
        exact ⟨AvLe.refl _, AvLe.refl _, AvLe.refl _, AvLe.refl _, AvLe.refl _, AvLe.refl _, AvLe.of (incI (by omega)), trivial⟩
      · obtain ⟨t1, t2⟩ := lastF_take (is := is) hil
        rw [hg] at c2
        rw [c2, if_pos rfl] at t1
        rw [t1, ← hg]
        exact ⟨⟨_, rfl, BlkLe.refl _⟩, trivial⟩
    · refine SemW.go tyT_ok mixed ?_
      conv => arg 6; whnf
      refine Holds.mk (by simp) ?_
      have IH' := IH ⟨i + 1, hil⟩ (by show l.length - (i + 1) < l.length - i; omega)
      dsimp only at IH'
      refine SemW.cutW ?_ ?_ fresh1_nodup (by simp only [avoidT, AV.avoid, sF, avoid_caps hcaps]; rfl) rfl IH'
      · obtain ⟨t1, t2⟩ := lastF_take (is := is) hil
        rw [hg] at c2
        rw [c2, Bool.or_false] at t2
        rw [t2]
        exact ⟨AvLe.refl _, AvLe.refl _, AvLe.refl _, AvLe.refl _, AvLe.refl _, AvLe.refl _, AvLe.of (incI (by omega)), trivial⟩
      · obtain ⟨t1, t2⟩ := lastF_take (is := is) hil
        rw [hg] at c2
        rw [c2, if_neg (by simp)] at t1
        rw [t1]
        exact ⟨⟨_, rfl, BlkLe.refl _⟩, trivial⟩
  · have : i = l.length := by simp at c1; omega
    subst this
    rw [List.take_length] at *
    refine SemW.go tyT_ok mixed ?_
    conv => arg 6; whnf
    refine Holds.mk (by simp) ?_
    refine SemW.ret0 tyT_ok func52 rfl rfl rfl ?_
    exact hQ
theorem sfrag_spec (l : List Fr) (n : Int) (h : Hp) (Q : AV → Hp → List Blk → Prop) (hl : l.length < 2^62) (hb : ∀ f ∈ l, f.books.length < 2^40) (hQ : Q (.tup [encF (lastF l fun f => decide (f.first ≤ n)), abool (l.any fun f => decide (f.first ≤ n))]) h []) : SemC Try.prog 35 [sF l, .val (.int .u64 n)] h Q := by
  refine SemC.enter func35 rfl (Nat.le_of_ble_eq_true rfl) fresh fresh_nodup ?_
  refine SemW.go tyT_ok mixed ?_
  conv => arg 6; whnf
  refine Holds.mk (by simp) ?_
  refine SemW.frzW (T' := [(4, .ptr (.l 1) 0), (5, abool false), (9, sF l), (10, .fn 53 [.vp true 1 (.agg [.val (.int .u64 n)]) 0])]) (L' := [(1, .obj [.val (.int .u64 0), nilS])]) 0 rfl rfl ⟨AvLe.refl _, trivial, AvLe.refl _, trivial, AvLe.refl _, trivial, AvLe.refl _, ⟨trivial, trivial⟩, trivial⟩ ⟨rfl, ⟨rfl, trivial, trivial, trivial⟩, trivial⟩ ?_
  refine SemW.call0 rfl rfl func52 rfl rfl ?_
  refine last_spec l _ _ _ _ _ _ hl rfl func53 rfl rfl (fun p _ h Q hQ => frag1_spec p n h Q hQ) ⟨rfl, rfl, _, rfl, rfl, rfl, ?_⟩
  refine SemW.go tyT_ok mixed ?_
  conv => arg 6; whnf
  refine Holds.mk (by simp) ?_
  refine SemW.call0 rfl rfl func44 rfl rfl ?_
  refine clone_spec _ _ _ ?_ ⟨rfl, rfl, _, rfl, rfl, rfl, ?_⟩
  · exact lastF_mem (p := fun f => f.books.length < 2^40) hb (by simp)
  · refine SemW.go tyT_ok mixed ?_
    conv => arg 6; whnf
    refine Holds.mk (by simp) ?_
    refine SemW.ret0 tyT_ok func35 rfl rfl rfl ?_
    exact hQ
end Go.Proofs.Try
set_option linter.unusedVariables false
set_option linter.unusedSimpArgs false
open Go Go.AM
namespace Go.Proofs.Try
set_option maxRecDepth 100000
set_option maxHeartbeats 4000000
def fromL (l : List Pl) (k w : Nat) : List Pl := (List.range w).map fun i => l.getD ((k + i) % l.length) ⟨0, 0⟩
theorem fromL_length (l : List Pl) (k w : Nat) : (fromL l k w).length = w := by simp [fromL]
theorem fromL_getD (l : List Pl) (k w i : Nat) (hi : i < w) : (fromL l k w).getD i ⟨0, 0⟩ = l.getD ((k + i) % l.length) ⟨0, 0⟩ := by simp [fromL, hi]
theorem from_spec (l : List Pl) (k w : Nat) (h : Hp) (Q : AV → Hp → List Blk → Prop) (hk : k < 2^61) (hw : w < 2^40) (hl : l.length < 2^62) (hne : w = 0 ∨ 0 < l.length) (hQ : Q (sP (fromL l k w)) h []) : SemC Try.prog 36 [sP l, aint k, aint w] h Q := by
  refine SemC.enter func36 rfl (Nat.le_of_ble_eq_true rfl) fresh fresh_nodup ?_
  refine SemW.go tyT_ok mixed ?_
  conv => arg 6; whnf
  refine Holds.mk (by simp) ?_
  refine SemW.nilRow (t := 7) true 2 (fun _ => .bot) rfl ?_
  refine SemW.loop (X := {x : Nat × Nat // x.1 ≤ w}) (fun x => [(0, sP l), (1, aint k), (7, .sl (.l 0) x.1.2 2 0 x.1.1 x.1.1), (9, aint w), (10, aint x.1.1)]) (fun x => [(0, .arr true x.1.2 2 x.1.1 (fun i => encP ((fromL l k w).getD i ⟨0, 0⟩)))]) (fun _ => fresh1) (fun x => w - x.1.1) ⟨(0, 0), by simp⟩ (SemW.cutW ⟨AvLe.refl _, AvLe.refl _, AvLe.refl _, AvLe.refl _, AvLe.refl _, trivial⟩ ⟨⟨_, rfl, BlkLe.arr (Nat.le_refl _) (fun i hi => absurd hi (Nat.not_lt_zero _))⟩, trivial⟩ fresh1_nodup rfl rfl) (fun ⟨⟨i, g⟩, hi⟩ IH => ?_)
  dsimp only at hi IH ⊢
  refine SemW.go tyT_ok mixed ?_
  conv => arg 6; whnf
  refine Holds.mk (by simp) ?_
  refine SemW.cond rfl (fun c1 => ?_) (fun c1 => ?_)
  · have hiw : i < w := by simpa using c1
    have hlen : 0 < l.length := by omega
    have hmod : ((IntKind.i64.wrap ((k : Int) + i)).tmod (l.length : Int)) = (((k + i) % l.length : Nat) : Int) := by
      rw [wrap_i64 (by omega) (by omega)]
      rfl
    have hmlt : (k + i) % l.length < l.length := Nat.mod_lt _ hlen
    have hv := fromL_getD l k w i hiw
    generalize (k + i) % l.length = m at hmod hmlt hv
    refine SemW.go tyT_ok mixed ?_
    conv => arg 6; whnf
    refine Holds.mk ?_ ?_
    · simp only [hmod]
      simp
      exact ⟨by omega, hmlt, fun e => by rw [e] at hlen; simp at hlen⟩
    · refine SemW.cutW ?_ ?_ fresh1_nodup rfl rfl (IH ⟨(i + 1, g + 1), hiw⟩ (by show w - (i + 1) < w - i; omega))
      · exact ⟨AvLe.refl _, AvLe.refl _, AvLe.sl rfl (Nat.le_refl _) (Nat.le_max_right _ _), AvLe.refl _, AvLe.of (incI (by omega)), trivial⟩
      · refine ⟨⟨_, rfl, BlkLe.arr (Nat.le_refl _) fun j hj => app1 (f := fun j => encP ((fromL l k w).getD j ⟨0, 0⟩)) (f' := fun j => encP ((fromL l k w).getD j ⟨0, 0⟩)) (fun _ _ => rfl) ?_ j hj⟩, trivial⟩
        simp only [hmod, hv]
        rfl
  · have hiw : i = w := by simp at c1; omega
    refine SemW.go tyT_ok mixed ?_
    conv => arg 6; whnf
    refine Holds.mk (by simp) ?_
    refine SemW.frzW (T' := [(6, sP (fromL l k w))]) (L' := []) 0 rfl rfl ⟨AvLe.sP (by rw [fromL_length, hiw]) (fun j _ => by rw [Nat.zero_add]), ⟨by simp [Blk.num], rfl⟩, trivial⟩ trivial ?_
    refine SemW.ret0 tyT_ok func36 rfl rfl rfl ?_
    exact hQ
/-- the write set -/
def setL (l : List Fr) (w : Int) (n : Int) : List Pl :=
  let f := lastF l fun f => decide (f.first ≤ n)
  if (l.any fun f => decide (f.first ≤ n)) = true ∧ 1 ≤ w ∧ w ≤ f.books.length then fromL f.books ((n - f.first).toNat % f.books.length) w.toNat else []
theorem lastF_sat {l : List Fr} {is : Fr → Bool} (h : l.any is = true) : is (lastF l is) = true := by
  unfold lastF
  cases hb : (l.filter is).getLast? with
  | none =>
    have := List.getLast?_eq_none_iff.1 hb
    rw [List.filter_eq_nil_iff] at this
    rw [List.any_eq_true] at h
    obtain ⟨x, h1, h2⟩ := h
    exact absurd h2 (this x h1)
  | some f => exact (List.mem_filter.1 (List.mem_of_getLast? hb)).2
theorem set_spec (l : List Fr) (w n : Int) (h : Hp) (Q : AV → Hp → List Blk → Prop) (hl : l.length < 2^62) (hb : ∀ f ∈ l, f.books.length < 2^40 ∧ 0 ≤ f.first) (hn : n ≤ 18446744073709551615) (hQ : Q (sP (setL l w n)) h []) : SemC Try.prog 13 [sF l, aint w, .val (.int .u64 n)] h Q := by
  refine SemC.enter func13 rfl (Nat.le_of_ble_eq_true rfl) fresh fresh_nodup ?_
  refine SemW.go tyT_ok mixed ?_
  conv => arg 6; whnf
  refine Holds.mk (by simp) ?_
  refine SemW.call0 rfl rfl func35 rfl rfl ?_
  refine sfrag_spec l n _ _ hl (fun f hf => (hb f hf).1) ⟨rfl, rfl, _, rfl, rfl, rfl, ?_⟩
  unfold setL at hQ
  have hb0 : (lastF l fun f => decide (f.first ≤ n)).books.length < 2^40 ∧ 0 ≤ (lastF l fun f => decide (f.first ≤ n)).first := lastF_mem (p := fun f => f.books.length < 2^40 ∧ 0 ≤ f.first) hb (by simp)
  have hsat := lastF_sat (l := l) (is := fun f => decide (f.first ≤ n))
  generalize (lastF l fun f => decide (f.first ≤ n)) = f at *
  generalize (l.any fun f => decide (f.first ≤ n)) = ok at *
  obtain ⟨fi, bk⟩ := f
  dsimp only at *
  refine SemW.go tyT_ok mixed ?_
  conv => arg 6; whnf
  refine Holds.mk (by simp) ?_
  refine SemW.split (fun s1 => ?_) (fun s1 => ?_)
  · have e0 : ok = false := by simpa using s1
    subst e0
    rw [if_neg (by simp)] at hQ
    refine SemW.go tyT_ok mixed ?_
    conv => arg 6; whnf
    refine Holds.mk (by simp) ?_
    refine SemW.go tyT_ok mixed ?_
    conv => arg 6; whnf
    refine Holds.mk (by simp) ?_
    refine SemW.condT rfl ?_
    refine SemW.go tyT_ok mixed ?_
    conv => arg 6; whnf
    refine Holds.mk (by simp) ?_
    refine SemW.weak (T' := [(6, sP [])]) (L' := []) ⟨AvLe.nil _ _ _ _, trivial⟩ trivial ?_
    refine SemW.ret0 tyT_ok func13 rfl rfl rfl ?_
    exact hQ
  · have e0 : ok = true := by simpa using s1
    subst e0
    refine SemW.go tyT_ok mixed ?_
    conv => arg 6; whnf
    refine Holds.mk (by simp) ?_
    refine SemW.split (fun s2 => ?_) (fun s2 => ?_)
    · have hw : w < 1 := by simpa using s2
      rw [if_neg (by omega)] at hQ
      refine SemW.go tyT_ok mixed ?_
      conv => arg 6; whnf
      refine Holds.mk (by simp) ?_
      refine SemW.condT rfl ?_
      refine SemW.go tyT_ok mixed ?_
      conv => arg 6; whnf
      refine Holds.mk (by simp) ?_
      refine SemW.weak (T' := [(6, sP [])]) (L' := []) ⟨AvLe.nil _ _ _ _, trivial⟩ trivial ?_
      refine SemW.ret0 tyT_ok func13 rfl rfl rfl ?_
      exact hQ
    · have hw : ¬ w < 1 := by simpa using s2
      refine SemW.go tyT_ok mixed ?_
      conv => arg 6; whnf
      refine Holds.mk (by simp) ?_
      refine SemW.cond rfl (fun c3 => ?_) (fun c3 => ?_)
      · have hw2 : (bk.length : Int) < w := by simpa using c3
        rw [if_neg (by omega)] at hQ
        refine SemW.go tyT_ok mixed ?_
        conv => arg 6; whnf
        refine Holds.mk (by simp) ?_
        refine SemW.weak (T' := [(6, sP [])]) (L' := []) ⟨AvLe.nil _ _ _ _, trivial⟩ trivial ?_
        refine SemW.ret0 tyT_ok func13 rfl rfl rfl ?_
        exact hQ
      · have hw2 : ¬ (bk.length : Int) < w := by simpa using c3
        rw [if_pos (by refine ⟨rfl, ?_, ?_⟩ <;> omega)] at hQ
        have hfn : fi ≤ n := by simpa using hsat rfl
        obtain ⟨wn, rfl⟩ : ∃ wn : Nat, w = wn := ⟨w.toNat, by omega⟩
        obtain ⟨m, hm⟩ : ∃ m : Nat, n - fi = m := ⟨(n - fi).toNat, by omega⟩
        refine SemW.go tyT_ok mixed ?_
        conv => arg 6; whnf
        refine Holds.mk (by simp) ?_
        refine SemW.draw mixed rfl rfl ?_
        have hlen : 0 < bk.length := by omega
        have e1 : IntKind.u64.wrap ((bk.length : Int)) = bk.length := wrap_u64 (by omega) (by omega)
        have e2 : IntKind.u64.wrap (n - fi) = m := by rw [hm]; exact wrap_u64 (by omega) (by omega)
        have hmod : m % bk.length < bk.length := Nat.mod_lt _ hlen
        have e3 : ((m : Int).tmod (bk.length : Int)) = ((m % bk.length : Nat) : Int) := rfl
        have e4 : AV.val (.int .i64 (IntKind.i64.wrap ((IntKind.u64.wrap (n - fi)).tmod (IntKind.u64.wrap (bk.length : Int))))) = aint ((m % bk.length : Nat) : Int) := by
          rw [e1, e2, e3, wrap_i64 (by omega) (by omega)]
        rw [hm] at hQ
        refine SemDr.go tyT_ok ?_
        conv => arg 9; whnf
        refine HoldsD.mk ((by rw [e1]; simp; intro e; rw [e] at hlen; simp at hlen)) ?_
        refine SemDr.call0 rfl func36 rfl rfl ?_
        refine SemC.weakArgs (args' := [sP bk, aint ((m % bk.length : Nat) : Int), aint wn]) ⟨AvLe.refl _, AvLe.of e4, AvLe.refl _, trivial⟩ ?_
        refine from_spec bk (m % bk.length) wn _ _ (by omega) (by omega) (by omega) (.inr hlen) ⟨rfl, rfl, _, rfl, rfl, rfl, ?_⟩
        refine SemDr.go tyT_ok ?_
        conv => arg 9; whnf
        refine HoldsD.mk (by simp) ?_
        refine SemDr.end rfl ?_
        refine SemW.go tyT_ok mixed ?_
        conv => arg 6; whnf
        refine Holds.mk (by simp) ?_
        refine SemW.ret0 tyT_ok func13 rfl rfl rfl ?_
        exact hQ
end Go.Proofs.Try
set_option linter.unusedVariables false
set_option linter.unusedSimpArgs false
open Go Go.AM
namespace Go.Proofs.Try
set_option maxRecDepth 100000
set_option maxHeartbeats 4000000
theorem among_spec (l fr : List Pl) (h : Hp) (Q : AV → Hp → List Blk → Prop) (hl : l.length < 2^62) (hfr : fr.length < 2^62) (hQ : Q (aint (amongL l fr)) h []) : SemC Try.prog 14 [sP l, sP fr] h Q := by
  refine SemC.enter func14 rfl (Nat.le_of_ble_eq_true rfl) fresh fresh_nodup ?_
  refine SemW.go tyT_ok mixed ?_
  conv => arg 6; whnf
  refine Holds.mk (by simp) ?_
  refine SemW.loop (X := {i : Nat // i ≤ l.length}) (fun i => [(0, sP l), (1, sP fr), (5, aint (amongT l fr i.1)), (6, aint i.1)]) (fun _ => []) (fun _ => fresh) (fun i => l.length - i.1) ⟨0, Nat.zero_le _⟩ (SemW.cut ⟨rfl, rfl, rfl, rfl, trivial⟩ trivial fresh_nodup rfl rfl) (fun ⟨i, hi⟩ IH => ?_)
  dsimp only at hi IH ⊢
  refine SemW.go tyT_ok mixed ?_
  conv => arg 6; whnf
  refine Holds.mk (by simp) ?_
  refine SemW.cond rfl (fun c1 => ?_) (fun c1 => ?_)
  · have hil : i < l.length := by simpa using c1
    refine SemW.go tyT_ok mixed ?_
    conv => arg 6; whnf
    refine Holds.mk (by simp) ?_
    refine SemW.loop (X := {k : Nat // k ≤ i}) (fun k => [(0, sP l), (1, sP fr), (5, aint (amongT l fr i)), (6, aint i), (7, abool (firstB l i k.1)), (8, aint k.1)]) (fun _ => []) (fun _ => fresh) (fun k => i - k.1) ⟨0, Nat.zero_le _⟩ (SemW.cut ⟨rfl, rfl, rfl, rfl, rfl, rfl, trivial⟩ trivial fresh_nodup rfl rfl) (fun ⟨k, hk⟩ IH2 => ?_)
    dsimp only at hk IH2 ⊢
    refine SemW.go tyT_ok mixed ?_
    conv => arg 6; whnf
    refine Holds.mk (by simp) ?_
    refine SemW.cond rfl (fun c2 => ?_) (fun c2 => ?_)
    · have hki : k < i := by simpa using c2
      have IH2' := IH2 ⟨k + 1, hki⟩ (by show i - (k + 1) < i - k; omega)
      have hs := firstB_succ l i k
      dsimp only at IH2'
      refine SemW.go tyT_ok mixed ?_
      conv => arg 6; whnf
      refine Holds.mk (by simp) ?_
      refine SemW.draw mixed rfl rfl ?_
      refine SemDr.go tyT_ok ?_
      conv => arg 9; whnf
      refine HoldsD.mk (by simp) ?_
      refine SemDr.split (fun c3 => ?_) (fun c3 => ?_)
      · refine SemDr.go tyT_ok ?_
        conv => arg 9; whnf
        refine HoldsD.mk ((by simp; omega)) ?_
        refine SemDr.end rfl ?_
        refine SemW.go tyT_ok mixed ?_
        conv => arg 6; whnf
        refine Holds.mk (by simp) ?_
        refine SemW.cut ?_ ?_ fresh_nodup rfl rfl IH2'
        · refine ⟨rfl, rfl, rfl, rfl, ?_, incI (by omega), trivial⟩
          rw [hs, c3, Bool.true_and, ← eqP]
          rfl
        · trivial
      · refine SemDr.go tyT_ok ?_
        conv => arg 9; whnf
        refine HoldsD.mk (by simp) ?_
        refine SemDr.end rfl ?_
        refine SemW.go tyT_ok mixed ?_
        conv => arg 6; whnf
        refine Holds.mk (by simp) ?_
        refine SemW.cut ?_ ?_ fresh_nodup rfl rfl IH2'
        · refine ⟨rfl, rfl, rfl, rfl, ?_, incI (by omega), trivial⟩
          rw [hs, c3, Bool.false_and]
          rfl
        · trivial
    · obtain rfl : k = i := by simp at c2; omega
      refine SemW.go tyT_ok mixed ?_
      conv => arg 6; whnf
      refine Holds.mk (by simp) ?_
      refine SemW.loop (X := {q : Nat // q ≤ fr.length}) (fun q => [(0, sP l), (1, sP fr), (5, aint (amongT l fr k)), (6, aint k), (7, abool (firstB l k k)), (9, abool (inB l fr k q.1)), (10, aint q.1)]) (fun _ => []) (fun _ => fresh) (fun q => fr.length - q.1) ⟨0, Nat.zero_le _⟩ (SemW.cut ⟨rfl, rfl, rfl, rfl, rfl, rfl, rfl, trivial⟩ trivial fresh_nodup rfl rfl) (fun ⟨q, hq⟩ IH3 => ?_)
      dsimp only at hq IH3 ⊢
      refine SemW.go tyT_ok mixed ?_
      conv => arg 6; whnf
      refine Holds.mk (by simp) ?_
      refine SemW.cond rfl (fun c3 => ?_) (fun c3 => ?_)
      · have hqi : q < fr.length := by simpa using c3
        have IH3' := IH3 ⟨q + 1, hqi⟩ (by show fr.length - (q + 1) < fr.length - q; omega)
        have hs := inB_succ l fr k q
        dsimp only at IH3'
        refine SemW.go tyT_ok mixed ?_
        conv => arg 6; whnf
        refine Holds.mk (by simp) ?_
        refine SemW.draw mixed rfl rfl ?_
        refine SemDr.go tyT_ok ?_
        conv => arg 9; whnf
        refine HoldsD.mk (by simp) ?_
        refine SemDr.split (fun c4 => ?_) (fun c4 => ?_)
        · refine SemDr.go tyT_ok ?_
          conv => arg 9; whnf
          refine HoldsD.mk (by simp) ?_
          refine SemDr.end rfl ?_
          refine SemW.go tyT_ok mixed ?_
          conv => arg 6; whnf
          refine Holds.mk (by simp) ?_
          refine SemW.cut ?_ ?_ fresh_nodup rfl rfl IH3'
          · refine ⟨rfl, rfl, rfl, rfl, rfl, ?_, incI (by omega), trivial⟩
            rw [hs, c4, Bool.true_or]
            rfl
          · trivial
        · refine SemDr.go tyT_ok ?_
          conv => arg 9; whnf
          refine HoldsD.mk ((by simp; omega)) ?_
          refine SemDr.end rfl ?_
          refine SemW.go tyT_ok mixed ?_
          conv => arg 6; whnf
          refine Holds.mk (by simp) ?_
          refine SemW.cut ?_ ?_ fresh_nodup rfl rfl IH3'
          · refine ⟨rfl, rfl, rfl, rfl, rfl, ?_, incI (by omega), trivial⟩
            rw [hs, c4, Bool.false_or, ← eqP]
            rfl
          · trivial
      · obtain rfl : q = fr.length := by simp at c3; omega
        have IH' := IH ⟨k + 1, hil⟩ (by show l.length - (k + 1) < l.length - k; omega)
        have hs := amongT_succ l fr k
        have hle := amongT_le l fr k
        dsimp only at IH'
        refine SemW.go tyT_ok mixed ?_
        conv => arg 6; whnf
        refine Holds.mk (by simp) ?_
        refine SemW.split (fun c4 => ?_) (fun c4 => ?_)
        · refine SemW.go tyT_ok mixed ?_
          conv => arg 6; whnf
          refine Holds.mk (by simp) ?_
          rw [c4, Bool.true_and] at hs
          refine SemW.cond rfl (fun c5 => ?_) (fun c5 => ?_)
          · rw [c5, if_pos rfl] at hs
            refine SemW.go tyT_ok mixed ?_
            conv => arg 6; whnf
            refine Holds.mk (by simp) ?_
            refine SemW.cut ?_ ?_ fresh_nodup rfl rfl IH'
            · refine ⟨rfl, rfl, ?_, incI (by omega), trivial⟩
              rw [hs]
              exact incI (by omega)
            · trivial
          · rw [c5, if_neg (by simp)] at hs
            refine SemW.go tyT_ok mixed ?_
            conv => arg 6; whnf
            refine Holds.mk (by simp) ?_
            refine SemW.cut ?_ ?_ fresh_nodup rfl rfl IH'
            · refine ⟨rfl, rfl, ?_, incI (by omega), trivial⟩
              rw [hs]
              rfl
            · trivial
        · refine SemW.go tyT_ok mixed ?_
          conv => arg 6; whnf
          refine Holds.mk (by simp) ?_
          rw [c4, Bool.false_and, if_neg (by simp)] at hs
          refine SemW.condF rfl ?_
          refine SemW.go tyT_ok mixed ?_
          conv => arg 6; whnf
          refine Holds.mk (by simp) ?_
          refine SemW.cut ?_ ?_ fresh_nodup rfl rfl IH'
          · refine ⟨rfl, rfl, ?_, incI (by omega), trivial⟩
            rw [hs]
            rfl
          · trivial
  · obtain rfl : i = l.length := by simp at c1; omega
    refine SemW.go tyT_ok mixed ?_
    conv => arg 6; whnf
    refine Holds.mk (by simp) ?_
    refine SemW.ret0 tyT_ok func14 rfl rfl rfl ?_
    exact hQ
end Go.Proofs.Try
set_option linter.unusedVariables false
set_option linter.unusedSimpArgs false
open Go Go.AM
namespace Go.Proofs.Try
set_option maxRecDepth 100000
set_option maxHeartbeats 4000000
theorem longFrags_spec (l : List Fr) (h : Hp) (Q : AV → Hp → List Blk → Prop) (hl : l.length < 2^62) (hQ : Q (abool (longF l)) h []) : SemC Try.prog 31 [sF l] h Q := by
  refine SemC.enter func31 rfl (Nat.le_of_ble_eq_true rfl) fresh fresh_nodup ?_
  unfold longF at hQ
  refine SemW.go tyT_ok mixed ?_
  conv => arg 6; whnf
  refine Holds.mk (by simp) ?_
  refine SemW.cond rfl (fun c0 => ?_) (fun c0 => ?_)
  · refine SemW.go tyT_ok mixed ?_
    conv => arg 6; whnf
    refine Holds.mk (by simp) ?_
    refine SemW.ret0 tyT_ok func31 rfl rfl rfl ?_
    have c0' : decide ((l.length : Int) > 30) = true := c0
    rw [c0', Bool.true_or] at hQ
    exact hQ
  · have c0' : decide ((l.length : Int) > 30) = false := c0
    rw [c0', Bool.false_or] at hQ
    refine SemW.go tyT_ok mixed ?_
    conv => arg 6; whnf
    refine Holds.mk (by simp) ?_
    refine SemW.loop (X := {i : Nat // i ≤ l.length ∧ ((List.range i).any fun i => decide (((l.getD i F0).books.length : Int) > 30)) = false}) (fun i => [(0, sF l), (3, aint i.1)]) (fun _ => []) (fun _ => fresh) (fun i => l.length - i.1) ⟨0, Nat.zero_le _, rfl⟩ (SemW.cut ⟨rfl, rfl, trivial⟩ trivial fresh_nodup rfl rfl) (fun ⟨i, hi, ha⟩ IH => ?_)
    dsimp only at hi ha IH ⊢
    refine SemW.go tyT_ok mixed ?_
    conv => arg 6; whnf
    refine Holds.mk (by simp) ?_
    refine SemW.cond rfl (fun c1 => ?_) (fun c1 => ?_)
    · have hil : i < l.length := by simpa using c1
      refine SemW.go tyT_ok mixed ?_
      conv => arg 6; whnf
      refine Holds.mk ((by simp; omega)) ?_
      refine SemW.cond rfl (fun c2 => ?_) (fun c2 => ?_)
      · refine SemW.go tyT_ok mixed ?_
        conv => arg 6; whnf
        refine Holds.mk (by simp) ?_
        refine SemW.ret0 tyT_ok func31 rfl rfl rfl ?_
        rw [any_true hil c2] at hQ
        exact hQ
      · refine SemW.go tyT_ok mixed ?_
        conv => arg 6; whnf
        refine Holds.mk (by simp) ?_
        have IH' := IH ⟨i + 1, hil, any_succ ha c2⟩ (by show l.length - (i + 1) < l.length - i; omega)
        refine SemW.cut ?_ ?_ fresh_nodup rfl rfl IH'
        · exact ⟨rfl, incI (by omega), trivial⟩
        · trivial
    · obtain rfl : i = l.length := by simp at c1; omega
      refine SemW.go tyT_ok mixed ?_
      conv => arg 6; whnf
      refine Holds.mk (by simp) ?_
      refine SemW.ret0 tyT_ok func31 rfl rfl rfl ?_
      rw [ha] at hQ
      exact hQ
theorem long_spec (l : List Fr) (w : Int) (rows : List (List Pl)) (h : Hp) (Q : AV → Hp → List Blk → Prop) (hl : l.length < 2^62) (hr : rows.length < 2^62) (hQ : Q (abool (longB l w rows)) h []) : SemC Try.prog 10 [sF l, aint w, sR rows] h Q := by
  refine SemC.enter func10 rfl (Nat.le_of_ble_eq_true rfl) fresh fresh_nodup ?_
  unfold longB at hQ
  refine SemW.go tyT_ok mixed ?_
  conv => arg 6; whnf
  refine Holds.mk (by simp) ?_
  refine SemW.call0 rfl rfl func31 rfl rfl ?_
  refine longFrags_spec l _ _ hl ⟨rfl, rfl, _, rfl, rfl, rfl, ?_⟩
  refine SemW.go tyT_ok mixed ?_
  conv => arg 6; whnf
  refine Holds.mk (by simp) ?_
  refine SemW.split (fun s1 => ?_) (fun s1 => ?_)
  · refine SemW.go tyT_ok mixed ?_
    conv => arg 6; whnf
    refine Holds.mk (by simp) ?_
    refine SemW.condT rfl ?_
    refine SemW.go tyT_ok mixed ?_
    conv => arg 6; whnf
    refine Holds.mk (by simp) ?_
    refine SemW.ret0 tyT_ok func10 rfl rfl rfl ?_
    rw [s1, Bool.true_or] at hQ
    exact hQ
  · rw [s1, Bool.false_or] at hQ
    refine SemW.go tyT_ok mixed ?_
    conv => arg 6; whnf
    refine Holds.mk (by simp) ?_
    refine SemW.cond rfl (fun s2 => ?_) (fun s2 => ?_)
    · refine SemW.go tyT_ok mixed ?_
      conv => arg 6; whnf
      refine Holds.mk (by simp) ?_
      refine SemW.ret0 tyT_ok func10 rfl rfl rfl ?_
      have s2' : decide (w > 1000) = true := s2
      rw [s2', Bool.true_or] at hQ
      exact hQ
    · have s2' : decide (w > 1000) = false := s2
      rw [s2', Bool.false_or] at hQ
      refine SemW.go tyT_ok mixed ?_
      conv => arg 6; whnf
      refine Holds.mk (by simp) ?_
      refine SemW.loop (X := {i : Nat // i ≤ rows.length ∧ ((List.range i).any fun i => decide (((rows.getD i []).length : Int) > 60)) = false}) (fun i => [(2, sR rows), (7, aint i.1)]) (fun _ => []) (fun _ => fresh) (fun i => rows.length - i.1) ⟨0, Nat.zero_le _, rfl⟩ (SemW.cut ⟨rfl, rfl, trivial⟩ trivial fresh_nodup rfl rfl) (fun ⟨i, hi, ha⟩ IH => ?_)
      dsimp only at hi ha IH ⊢
      refine SemW.go tyT_ok mixed ?_
      conv => arg 6; whnf
      refine Holds.mk (by simp) ?_
      refine SemW.cond rfl (fun c1 => ?_) (fun c1 => ?_)
      · have hil : i < rows.length := by simpa using c1
        refine SemW.go tyT_ok mixed ?_
        conv => arg 6; whnf
        refine Holds.mk ((by simp; omega)) ?_
        refine SemW.cond rfl (fun c2 => ?_) (fun c2 => ?_)
        · refine SemW.go tyT_ok mixed ?_
          conv => arg 6; whnf
          refine Holds.mk (by simp) ?_
          refine SemW.ret0 tyT_ok func10 rfl rfl rfl ?_
          rw [any_true hil c2] at hQ
          exact hQ
        · refine SemW.go tyT_ok mixed ?_
          conv => arg 6; whnf
          refine Holds.mk (by simp) ?_
          have IH' := IH ⟨i + 1, hil, any_succ ha c2⟩ (by show rows.length - (i + 1) < rows.length - i; omega)
          refine SemW.cut ?_ ?_ fresh_nodup rfl rfl IH'
          · exact ⟨rfl, incI (by omega), trivial⟩
          · trivial
      · obtain rfl : i = rows.length := by simp at c1; omega
        refine SemW.go tyT_ok mixed ?_
        conv => arg 6; whnf
        refine Holds.mk (by simp) ?_
        refine SemW.ret0 tyT_ok func10 rfl rfl rfl ?_
        rw [ha] at hQ
        exact hQ
theorem mayPlace_spec (p : Pl) (h : Hp) (Q : AV → Hp → List Blk → Prop) (hQ : Q (abool (placeB p)) h []) : SemC Try.prog 32 [encP p] h Q := by
  refine SemC.enter func32 rfl (Nat.le_of_ble_eq_true rfl) fresh fresh_nodup ?_
  unfold placeB at hQ
  refine SemW.go tyT_ok mixed ?_
  conv => arg 6; whnf
  refine Holds.mk (by simp) ?_
  refine SemW.split (fun s1 => ?_) (fun s1 => ?_)
  · have s1' : decide (p.node > 0) = true := s1
    rw [s1', Bool.true_and] at hQ
    refine SemW.go tyT_ok mixed ?_
    conv => arg 6; whnf
    refine Holds.mk (by simp) ?_
    refine SemW.split (fun s2 => ?_) (fun s2 => ?_)
    · have s2' : decide (p.node ≤ 15) = true := s2
      rw [s2', Bool.true_and] at hQ
      refine SemW.go tyT_ok mixed ?_
      conv => arg 6; whnf
      refine Holds.mk (by simp) ?_
      refine SemW.split (fun s3 => ?_) (fun s3 => ?_)
      · have s3' : decide (p.serial > 0) = true := s3
        rw [s3', Bool.true_and] at hQ
        refine SemW.go tyT_ok mixed ?_
        conv => arg 6; whnf
        refine Holds.mk (by simp) ?_
        refine SemW.ret0 tyT_ok func32 rfl rfl rfl ?_
        exact hQ
      · have s3' : decide (p.serial > 0) = false := s3
        rw [s3', Bool.false_and] at hQ
        refine SemW.go tyT_ok mixed ?_
        conv => arg 6; whnf
        refine Holds.mk (by simp) ?_
        refine SemW.ret0 tyT_ok func32 rfl rfl rfl ?_
        exact hQ
    · have s2' : decide (p.node ≤ 15) = false := s2
      rw [s2', Bool.false_and] at hQ
      refine SemW.go tyT_ok mixed ?_
      conv => arg 6; whnf
      refine Holds.mk (by simp) ?_
      refine SemW.go tyT_ok mixed ?_
      conv => arg 6; whnf
      refine Holds.mk (by simp) ?_
      refine SemW.ret0 tyT_ok func32 rfl rfl rfl ?_
      exact hQ
  · have s1' : decide (p.node > 0) = false := s1
    rw [s1', Bool.false_and] at hQ
    refine SemW.go tyT_ok mixed ?_
    conv => arg 6; whnf
    refine Holds.mk (by simp) ?_
    refine SemW.go tyT_ok mixed ?_
    conv => arg 6; whnf
    refine Holds.mk (by simp) ?_
    refine SemW.go tyT_ok mixed ?_
    conv => arg 6; whnf
    refine Holds.mk (by simp) ?_
    refine SemW.ret0 tyT_ok func32 rfl rfl rfl ?_
    exact hQ
end Go.Proofs.Try
set_option linter.unusedVariables false
set_option linter.unusedSimpArgs false
open Go Go.AM
namespace Go.Proofs.Try
set_option maxRecDepth 100000
set_option maxHeartbeats 4000000
theorem mayFrags_spec (w : Int) (l : List Fr) (h : Hp) (Q : AV → Hp → List Blk → Prop) (hl : l.length < 2^62) (hQ : Q (abool (mayB w l)) h []) : SemC Try.prog 11 [aint w, sF l] h Q := by
  refine SemC.enter func11 rfl (Nat.le_of_ble_eq_true rfl) fresh fresh_nodup ?_
  unfold mayB at hQ
  refine SemW.go tyT_ok mixed ?_
  conv => arg 6; whnf
  refine Holds.mk (by simp) ?_
  refine SemW.split (fun s1 => ?_) (fun s1 => ?_)
  · have s1' : decide ((l.length : Int) < 1) = true := s1
    rw [s1', Bool.not_true, Bool.false_and] at hQ
    refine SemW.go tyT_ok mixed ?_
    conv => arg 6; whnf
    refine Holds.mk (by simp) ?_
    refine SemW.go tyT_ok mixed ?_
    conv => arg 6; whnf
    refine Holds.mk (by simp) ?_
    refine SemW.condT rfl ?_
    refine SemW.go tyT_ok mixed ?_
    conv => arg 6; whnf
    refine Holds.mk (by simp) ?_
    refine SemW.ret0 tyT_ok func11 rfl rfl rfl ?_
    exact hQ
  · have s1' : decide ((l.length : Int) < 1) = false := s1
    rw [s1', Bool.not_false, Bool.true_and] at hQ
    refine SemW.go tyT_ok mixed ?_
    conv => arg 6; whnf
    refine Holds.mk (by simp) ?_
    refine SemW.split (fun s2 => ?_) (fun s2 => ?_)
    · have s2' : decide ((l.length : Int) > 6) = true := s2
      rw [s2', Bool.not_true, Bool.false_and] at hQ
      refine SemW.go tyT_ok mixed ?_
      conv => arg 6; whnf
      refine Holds.mk (by simp) ?_
      refine SemW.condT rfl ?_
      refine SemW.go tyT_ok mixed ?_
      conv => arg 6; whnf
      refine Holds.mk (by simp) ?_
      refine SemW.ret0 tyT_ok func11 rfl rfl rfl ?_
      exact hQ
    · have s2' : decide ((l.length : Int) > 6) = false := s2
      rw [s2', Bool.not_false, Bool.true_and] at hQ
      have hpos : 0 < l.length := by simp at s1'; omega
      refine SemW.go tyT_ok mixed ?_
      conv => arg 6; whnf
      refine Holds.mk ((by simpa using hpos)) ?_
      refine SemW.cond rfl (fun s3 => ?_) (fun s3 => ?_)
      · have s3' : ((l.getD 0 F0).first == 1) = false := by simpa using s3
        rw [s3', Bool.false_and] at hQ
        refine SemW.go tyT_ok mixed ?_
        conv => arg 6; whnf
        refine Holds.mk (by simp) ?_
        refine SemW.ret0 tyT_ok func11 rfl rfl rfl ?_
        exact hQ
      · have s3' : ((l.getD 0 F0).first == 1) = true := by simpa using s3
        rw [s3', Bool.true_and] at hQ
        refine SemW.go tyT_ok mixed ?_
        conv => arg 6; whnf
        refine Holds.mk (by simp) ?_
        refine SemW.loop (X := {i : Nat // i ≤ l.length ∧ (List.range i).all (fragB w l) = true}) (fun i => [(0, aint w), (1, sF l), (5, aint i.1)]) (fun _ => []) (fun _ => fresh) (fun i => l.length - i.1) ⟨0, Nat.zero_le _, rfl⟩ (SemW.cut ⟨rfl, rfl, rfl, trivial⟩ trivial fresh_nodup rfl rfl) (fun ⟨i, hi, ha⟩ IH => ?_)
        dsimp only at hi ha IH ⊢
        refine SemW.go tyT_ok mixed ?_
        conv => arg 6; whnf
        refine Holds.mk (by simp) ?_
        refine SemW.cond rfl (fun c1 => ?_) (fun c1 => ?_)
        · have hil : i < l.length := by simpa using c1
          have bad : fragB w l i = false → Q (abool false) h [] := fun hf => by rw [all_false hil hf] at hQ; exact hQ
          have unf : fragB w l i = (!(decide ((l.getD i F0).first > 9)) && (!(decide ((i : Int) > 0) && decide ((l.getD i F0).first ≤ (l.getD (i - 1) F0).first)) && (!(decide (((l.getD i F0).books.length : Int) < w)) && (!(decide (((l.getD i F0).books.length : Int) > 5)) && booksB (l.getD i F0).books (l.getD i F0).books.length)))) := rfl
          have IH' := fun hf => IH ⟨i + 1, hil, all_succ ha hf⟩ (by show l.length - (i + 1) < l.length - i; omega)
          have elF : AV.vs true 2 l.length (fun i => encF (l.getD i ⟨0, []⟩)) = sF l := rfl
          have hw1 : 0 < i → IntKind.i64.wrap ((i : Int) - 1) = ((i - 1 : Nat) : Int) := fun h0 => by rw [wrap_i64 (by omega) (by omega)]; omega
          refine SemW.go tyT_ok mixed ?_
          conv => arg 6; whnf
          refine Holds.mk ((by simp; omega)) ?_
          refine SemW.draw mixed rfl rfl ?_
          refine SemDr.go tyT_ok ?_
          conv => arg 9; whnf
          refine HoldsD.mk ((by simp; omega)) ?_
          refine SemDr.split (fun s4 => ?_) (fun s4 => ?_)
          · have s4' : decide ((l.getD i F0).first > 9) = true := s4
            refine SemDr.go tyT_ok ?_
            conv => arg 9; whnf
            refine HoldsD.mk (by simp) ?_
            refine SemDr.go tyT_ok ?_
            conv => arg 9; whnf
            refine HoldsD.mk (by simp) ?_
            refine SemDr.go tyT_ok ?_
            conv => arg 9; whnf
            refine HoldsD.mk (by simp) ?_
            refine SemDr.go tyT_ok ?_
            conv => arg 9; whnf
            refine HoldsD.mk (by simp) ?_
            refine SemDr.end rfl ?_
            refine SemW.go tyT_ok mixed ?_
            conv => arg 6; whnf
            refine Holds.mk (by simp) ?_
            refine SemW.condT rfl ?_
            refine SemW.go tyT_ok mixed ?_
            conv => arg 6; whnf
            refine Holds.mk (by simp) ?_
            refine SemW.ret0 tyT_ok func11 rfl rfl rfl ?_
            refine bad ?_
            rw [unf, s4']; rfl
          · have s4' : decide ((l.getD i F0).first > 9) = false := s4
            refine SemDr.go tyT_ok ?_
            conv => arg 9; whnf
            refine HoldsD.mk (by simp) ?_
            refine SemDr.split (fun s5 => ?_) (fun s5 => ?_)
            · have hi0 : 0 < i := by simpa using s5
              have s5' : decide ((i : Int) > 0) = true := s5
              refine SemDr.go tyT_ok ?_
              conv => arg 9; whnf
              refine HoldsD.mk ((by rw [hw1 hi0]; simp; omega)) ?_
              refine SemDr.split (fun s6 => ?_) (fun s6 => ?_)
              · have s6' : decide ((l.getD i F0).first ≤ (l.getD (i - 1) F0).first) = true := by
                  have := s6
                  rw [hw1 hi0] at this
                  exact this
                refine SemDr.go tyT_ok ?_
                conv => arg 9; whnf
                refine HoldsD.mk (by simp) ?_
                refine SemDr.go tyT_ok ?_
                conv => arg 9; whnf
                refine HoldsD.mk (by simp) ?_
                refine SemDr.end rfl ?_
                refine SemW.go tyT_ok mixed ?_
                conv => arg 6; whnf
                refine Holds.mk (by simp) ?_
                refine SemW.condT rfl ?_
                refine SemW.go tyT_ok mixed ?_
                conv => arg 6; whnf
                refine Holds.mk (by simp) ?_
                refine SemW.ret0 tyT_ok func11 rfl rfl rfl ?_
                refine bad ?_
                rw [unf, s4', s5', s6']; rfl
              · have s6' : decide ((l.getD i F0).first ≤ (l.getD (i - 1) F0).first) = false := by
                  have := s6
                  rw [hw1 hi0] at this
                  exact this
                have s56 : (decide ((i : Int) > 0) && decide ((l.getD i F0).first ≤ (l.getD (i - 1) F0).first)) = false := by rw [s6']; simp
                refine SemDr.go tyT_ok ?_
                conv => arg 9; whnf
                refine HoldsD.mk (by simp) ?_
                refine SemDr.split (fun s7 => ?_) (fun s7 => ?_)
                · have s7' : decide (((l.getD i F0).books.length : Int) < w) = true := s7
                  refine SemDr.go tyT_ok ?_
                  conv => arg 9; whnf
                  refine HoldsD.mk (by simp) ?_
                  refine SemDr.end rfl ?_
                  refine SemW.go tyT_ok mixed ?_
                  conv => arg 6; whnf
                  refine Holds.mk (by simp) ?_
                  refine SemW.condT rfl ?_
                  refine SemW.go tyT_ok mixed ?_
                  conv => arg 6; whnf
                  refine Holds.mk (by simp) ?_
                  refine SemW.ret0 tyT_ok func11 rfl rfl rfl ?_
                  refine bad ?_
                  rw [unf, s4', s56, s7']; rfl
                · have s7' : decide (((l.getD i F0).books.length : Int) < w) = false := s7
                  refine SemDr.go tyT_ok ?_
                  conv => arg 9; whnf
                  refine HoldsD.mk (by simp) ?_
                  refine SemDr.end rfl ?_
                  refine SemW.go tyT_ok mixed ?_
                  conv => arg 6; whnf
                  refine Holds.mk (by simp) ?_
                  refine SemW.cond rfl (fun s8 => ?_) (fun s8 => ?_)
                  · have s8' : decide (((l.getD i F0).books.length : Int) > 5) = true := s8
                    refine SemW.go tyT_ok mixed ?_
                    conv => arg 6; whnf
                    refine Holds.mk (by simp) ?_
                    refine SemW.ret0 tyT_ok func11 rfl rfl rfl ?_
                    refine bad ?_
                    rw [unf, s4', s56, s7', s8']; rfl
                  · have s8' : decide (((l.getD i F0).books.length : Int) > 5) = false := s8
                    rw [s4', s56, s7', s8'] at unf
                    refine SemW.go tyT_ok mixed ?_
                    conv => arg 6; whnf
                    refine Holds.mk (by simp) ?_
                    clear s4 s7 s8
                    generalize hbk : (l.getD i F0).books = b at *
                    have hbl : b.length ≤ 5 := by simp at s8'; omega
                    have bad2 : booksB b b.length = false → Q (abool false) h [] := fun hf => bad (by rw [unf, hf]; rfl)
                    refine SemW.loop (X := {k : Nat // k ≤ b.length ∧ booksB b k = true}) (fun k => [(0, aint w), (1, sF l), (5, aint i), (6, sP b), (7, aint k.1)]) (fun _ => []) (fun _ => fresh) (fun k => b.length - k.1) ⟨0, Nat.zero_le _, rfl⟩ (SemW.cut ⟨rfl, rfl, rfl, by rw [← hbk]; rfl, rfl, trivial⟩ trivial fresh_nodup rfl rfl) (fun ⟨k, hk, hak⟩ IH2 => ?_)
                    dsimp only at hk hak IH2 ⊢
                    refine SemW.go tyT_ok mixed ?_
                    conv => arg 6; whnf
                    refine Holds.mk (by simp) ?_
                    refine SemW.cond rfl (fun t1 => ?_) (fun t1 => ?_)
                    · have hkl : k < b.length := by simpa using t1
                      have badk : (placeB (b.getD k P0) && unlikeB b k k) = false → Q (abool false) h [] := fun hf => bad2 (all_false (f := fun q => placeB (b.getD q P0) && unlikeB b q q) hkl hf)
                      refine SemW.go tyT_ok mixed ?_
                      conv => arg 6; whnf
                      refine Holds.mk ((by simp; omega)) ?_
                      refine SemW.call0 rfl rfl func32 rfl rfl ?_
                      refine mayPlace_spec _ _ _ ⟨rfl, rfl, _, rfl, rfl, rfl, ?_⟩
                      refine SemW.go tyT_ok mixed ?_
                      conv => arg 6; whnf
                      refine Holds.mk (by simp) ?_
                      refine SemW.cond rfl (fun t2 => ?_) (fun t2 => ?_)
                      · have t2' : placeB (b.getD k P0) = false := by simpa using t2
                        refine SemW.go tyT_ok mixed ?_
                        conv => arg 6; whnf
                        refine Holds.mk (by simp) ?_
                        refine SemW.ret0 tyT_ok func11 rfl rfl rfl ?_
                        exact badk (by rw [t2']; rfl)
                      · have t2' : placeB (b.getD k P0) = true := by simpa using t2
                        have IH2' := fun (hf : unlikeB b k k = true) => IH2 ⟨k + 1, hkl, all_succ (f := fun q => placeB (b.getD q P0) && unlikeB b q q) hak (by simp only [t2', hf]; rfl)⟩ (by show b.length - (k + 1) < b.length - k; omega)
                        rw [t2', Bool.true_and] at badk
                        refine SemW.go tyT_ok mixed ?_
                        conv => arg 6; whnf
                        refine Holds.mk (by simp) ?_
                        refine SemW.loop (X := {q : Nat // q ≤ k ∧ unlikeB b k q = true}) (fun q => [(0, aint w), (1, sF l), (5, aint i), (6, sP b), (7, aint k), (8, aint q.1)]) (fun _ => []) (fun _ => fresh) (fun q => k - q.1) ⟨0, Nat.zero_le _, rfl⟩ (SemW.cut ⟨rfl, rfl, rfl, rfl, rfl, rfl, trivial⟩ trivial fresh_nodup rfl rfl) (fun ⟨q, hq, haq⟩ IH3 => ?_)
                        dsimp only at hq haq IH3 ⊢
                        refine SemW.go tyT_ok mixed ?_
                        conv => arg 6; whnf
                        refine Holds.mk (by simp) ?_
                        refine SemW.cond rfl (fun t3 => ?_) (fun t3 => ?_)
                        · have hqk : q < k := by simpa using t3
                          refine SemW.go tyT_ok mixed ?_
                          conv => arg 6; whnf
                          refine Holds.mk ((by simp; omega)) ?_
                          refine SemW.cond rfl (fun t4 => ?_) (fun t4 => ?_)
                          · have t4' : (!((b.getD q P0).node == (b.getD k P0).node)) = false := by
                              have := t4
                              simp at this
                              simp [this]
                            refine SemW.go tyT_ok mixed ?_
                            conv => arg 6; whnf
                            refine Holds.mk (by simp) ?_
                            refine SemW.ret0 tyT_ok func11 rfl rfl rfl ?_
                            exact badk (all_false (f := fun j => !((b.getD j P0).node == (b.getD k P0).node)) hqk t4')
                          · have t4' : (!((b.getD q P0).node == (b.getD k P0).node)) = true := by
                              have := t4
                              simp at this
                              simp [this]
                            refine SemW.go tyT_ok mixed ?_
                            conv => arg 6; whnf
                            refine Holds.mk (by simp) ?_
                            have IH3' := IH3 ⟨q + 1, hqk, all_succ (f := fun j => !((b.getD j P0).node == (b.getD k P0).node)) haq t4'⟩ (by show k - (q + 1) < k - q; omega)
                            refine SemW.cut ?_ ?_ fresh_nodup rfl rfl IH3'
                            · exact ⟨rfl, rfl, rfl, rfl, rfl, incI (by omega), trivial⟩
                            · trivial
                        · obtain rfl : q = k := by simp at t3; omega
                          refine SemW.go tyT_ok mixed ?_
                          conv => arg 6; whnf
                          refine Holds.mk (by simp) ?_
                          refine SemW.cut ?_ ?_ fresh_nodup rfl rfl (IH2' haq)
                          · exact ⟨rfl, rfl, rfl, rfl, incI (by omega), trivial⟩
                          · trivial
                    · obtain rfl : k = b.length := by simp at t1; omega
                      refine SemW.go tyT_ok mixed ?_
                      conv => arg 6; whnf
                      refine Holds.mk (by simp) ?_
                      refine SemW.cut ?_ ?_ fresh_nodup rfl rfl (IH' (by rw [unf, hak]; rfl))
                      · exact ⟨rfl, rfl, incI (by omega), trivial⟩
                      · trivial
            · have s5' : decide ((i : Int) > 0) = false := s5
              have s56 : (decide ((i : Int) > 0) && decide ((l.getD i F0).first ≤ (l.getD (i - 1) F0).first)) = false := by rw [s5']; rfl
              refine SemDr.go tyT_ok ?_
              conv => arg 9; whnf
              refine HoldsD.mk (by simp) ?_
              refine SemDr.go tyT_ok ?_
              conv => arg 9; whnf
              refine HoldsD.mk (by simp) ?_
              refine SemDr.split (fun s7 => ?_) (fun s7 => ?_)
              · have s7' : decide (((l.getD i F0).books.length : Int) < w) = true := s7
                refine SemDr.go tyT_ok ?_
                conv => arg 9; whnf
                refine HoldsD.mk (by simp) ?_
                refine SemDr.end rfl ?_
                refine SemW.go tyT_ok mixed ?_
                conv => arg 6; whnf
                refine Holds.mk (by simp) ?_
                refine SemW.condT rfl ?_
                refine SemW.go tyT_ok mixed ?_
                conv => arg 6; whnf
                refine Holds.mk (by simp) ?_
                refine SemW.ret0 tyT_ok func11 rfl rfl rfl ?_
                refine bad ?_
                rw [unf, s4', s56, s7']; rfl
              · have s7' : decide (((l.getD i F0).books.length : Int) < w) = false := s7
                refine SemDr.go tyT_ok ?_
                conv => arg 9; whnf
                refine HoldsD.mk (by simp) ?_
                refine SemDr.end rfl ?_
                refine SemW.go tyT_ok mixed ?_
                conv => arg 6; whnf
                refine Holds.mk (by simp) ?_
                refine SemW.cond rfl (fun s8 => ?_) (fun s8 => ?_)
                · have s8' : decide (((l.getD i F0).books.length : Int) > 5) = true := s8
                  refine SemW.go tyT_ok mixed ?_
                  conv => arg 6; whnf
                  refine Holds.mk (by simp) ?_
                  refine SemW.ret0 tyT_ok func11 rfl rfl rfl ?_
                  refine bad ?_
                  rw [unf, s4', s56, s7', s8']; rfl
                · have s8' : decide (((l.getD i F0).books.length : Int) > 5) = false := s8
                  rw [s4', s56, s7', s8'] at unf
                  refine SemW.go tyT_ok mixed ?_
                  conv => arg 6; whnf
                  refine Holds.mk (by simp) ?_
                  clear s4 s7 s8
                  generalize hbk : (l.getD i F0).books = b at *
                  have hbl : b.length ≤ 5 := by simp at s8'; omega
                  have bad2 : booksB b b.length = false → Q (abool false) h [] := fun hf => bad (by rw [unf, hf]; rfl)
                  refine SemW.loop (X := {k : Nat // k ≤ b.length ∧ booksB b k = true}) (fun k => [(0, aint w), (1, sF l), (5, aint i), (6, sP b), (7, aint k.1)]) (fun _ => []) (fun _ => fresh) (fun k => b.length - k.1) ⟨0, Nat.zero_le _, rfl⟩ (SemW.cut ⟨rfl, rfl, rfl, by rw [← hbk]; rfl, rfl, trivial⟩ trivial fresh_nodup rfl rfl) (fun ⟨k, hk, hak⟩ IH2 => ?_)
                  dsimp only at hk hak IH2 ⊢
                  refine SemW.go tyT_ok mixed ?_
                  conv => arg 6; whnf
                  refine Holds.mk (by simp) ?_
                  refine SemW.cond rfl (fun t1 => ?_) (fun t1 => ?_)
                  · have hkl : k < b.length := by simpa using t1
                    have badk : (placeB (b.getD k P0) && unlikeB b k k) = false → Q (abool false) h [] := fun hf => bad2 (all_false (f := fun q => placeB (b.getD q P0) && unlikeB b q q) hkl hf)
                    refine SemW.go tyT_ok mixed ?_
                    conv => arg 6; whnf
                    refine Holds.mk ((by simp; omega)) ?_
                    refine SemW.call0 rfl rfl func32 rfl rfl ?_
                    refine mayPlace_spec _ _ _ ⟨rfl, rfl, _, rfl, rfl, rfl, ?_⟩
                    refine SemW.go tyT_ok mixed ?_
                    conv => arg 6; whnf
                    refine Holds.mk (by simp) ?_
                    refine SemW.cond rfl (fun t2 => ?_) (fun t2 => ?_)
                    · have t2' : placeB (b.getD k P0) = false := by simpa using t2
                      refine SemW.go tyT_ok mixed ?_
                      conv => arg 6; whnf
                      refine Holds.mk (by simp) ?_
                      refine SemW.ret0 tyT_ok func11 rfl rfl rfl ?_
                      exact badk (by rw [t2']; rfl)
                    · have t2' : placeB (b.getD k P0) = true := by simpa using t2
                      have IH2' := fun (hf : unlikeB b k k = true) => IH2 ⟨k + 1, hkl, all_succ (f := fun q => placeB (b.getD q P0) && unlikeB b q q) hak (by simp only [t2', hf]; rfl)⟩ (by show b.length - (k + 1) < b.length - k; omega)
                      rw [t2', Bool.true_and] at badk
                      refine SemW.go tyT_ok mixed ?_
                      conv => arg 6; whnf
                      refine Holds.mk (by simp) ?_
                      refine SemW.loop (X := {q : Nat // q ≤ k ∧ unlikeB b k q = true}) (fun q => [(0, aint w), (1, sF l), (5, aint i), (6, sP b), (7, aint k), (8, aint q.1)]) (fun _ => []) (fun _ => fresh) (fun q => k - q.1) ⟨0, Nat.zero_le _, rfl⟩ (SemW.cut ⟨rfl, rfl, rfl, rfl, rfl, rfl, trivial⟩ trivial fresh_nodup rfl rfl) (fun ⟨q, hq, haq⟩ IH3 => ?_)
                      dsimp only at hq haq IH3 ⊢
                      refine SemW.go tyT_ok mixed ?_
                      conv => arg 6; whnf
                      refine Holds.mk (by simp) ?_
                      refine SemW.cond rfl (fun t3 => ?_) (fun t3 => ?_)
                      · have hqk : q < k := by simpa using t3
                        refine SemW.go tyT_ok mixed ?_
                        conv => arg 6; whnf
                        refine Holds.mk ((by simp; omega)) ?_
                        refine SemW.cond rfl (fun t4 => ?_) (fun t4 => ?_)
                        · have t4' : (!((b.getD q P0).node == (b.getD k P0).node)) = false := by
                            have := t4
                            simp at this
                            simp [this]
                          refine SemW.go tyT_ok mixed ?_
                          conv => arg 6; whnf
                          refine Holds.mk (by simp) ?_
                          refine SemW.ret0 tyT_ok func11 rfl rfl rfl ?_
                          exact badk (all_false (f := fun j => !((b.getD j P0).node == (b.getD k P0).node)) hqk t4')
                        · have t4' : (!((b.getD q P0).node == (b.getD k P0).node)) = true := by
                            have := t4
                            simp at this
                            simp [this]
                          refine SemW.go tyT_ok mixed ?_
                          conv => arg 6; whnf
                          refine Holds.mk (by simp) ?_
                          have IH3' := IH3 ⟨q + 1, hqk, all_succ (f := fun j => !((b.getD j P0).node == (b.getD k P0).node)) haq t4'⟩ (by show k - (q + 1) < k - q; omega)
                          refine SemW.cut ?_ ?_ fresh_nodup rfl rfl IH3'
                          · exact ⟨rfl, rfl, rfl, rfl, rfl, incI (by omega), trivial⟩
                          · trivial
                      · obtain rfl : q = k := by simp at t3; omega
                        refine SemW.go tyT_ok mixed ?_
                        conv => arg 6; whnf
                        refine Holds.mk (by simp) ?_
                        refine SemW.cut ?_ ?_ fresh_nodup rfl rfl (IH2' haq)
                        · exact ⟨rfl, rfl, rfl, rfl, incI (by omega), trivial⟩
                        · trivial
                  · obtain rfl : k = b.length := by simp at t1; omega
                    refine SemW.go tyT_ok mixed ?_
                    conv => arg 6; whnf
                    refine Holds.mk (by simp) ?_
                    refine SemW.cut ?_ ?_ fresh_nodup rfl rfl (IH' (by rw [unf, hak]; rfl))
                    · exact ⟨rfl, rfl, incI (by omega), trivial⟩
                    · trivial
        · obtain rfl : i = l.length := by simp at c1; omega
          rw [ha] at hQ
          refine SemW.go tyT_ok mixed ?_
          conv => arg 6; whnf
          refine Holds.mk (by simp) ?_
          refine SemW.ret0 tyT_ok func11 rfl rfl rfl ?_
          exact hQ
end Go.Proofs.Try
