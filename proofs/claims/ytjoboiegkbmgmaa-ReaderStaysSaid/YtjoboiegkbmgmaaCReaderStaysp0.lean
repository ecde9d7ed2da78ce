/- Part 0 of the proof of the row ReaderStays: written for this claim by the session and by a program of its own. -/
import Derived.Orders
import Derived.Laws.BytesArg
import Derived.Laws.Sem
import Derived.Deep.MidRow
import Derived.Deep.AppendSrc
import Derived.Laws.StructEq
import Derived.Great.BuildSlice
import Derived.Deep.Upon
set_option linter.unusedVariables false
set_option linter.unusedSimpArgs false
namespace Go.AM
/-- Names of blocks: of this call (l), new ones that a call hands back (n), and the caller's (o). -/
inductive Id where
  | l (k : Nat)
  | n (j : Nat)
  | o (i : Id)
  deriving DecidableEq
inductive AV where
  | bot
  | val (v : Value)
  | agg (cs : List AV)
  | tup (cs : List AV)
  | fn (f : FuncId) (caps : List AV)
  /-- cell off of a block of one's own -/
  | ptr (id : Id) (off : Nat)
  /-- cell off of element i of a row of one's own, in its generation g -/
  | eptr (id : Id) (g c i off : Nat)
  /-- cell off of an element that stays as it is -/
  | vp (ag : Bool) (c : Nat) (x : AV) (off : Nat)
  /-- a slice of a row of one's own: it has room for at least cp -/
  | sl (id : Id) (g c off len cp : Nat)
  /-- a slice of n elements that stay as they are -/
  | vs (ag : Bool) (c n : Nat) (f : Nat → AV)
inductive Blk where
  | obj (cs : List AV)
  | arr (ag : Bool) (g c n : Nat) (f : Nat → AV)
abbrev Tm := List (Nat × AV)
abbrev Lh := List (Nat × Blk)
abbrev Hp := Id → Option Blk
inductive TD where
  | other | bool | string | int (k : IntKind) | slice (e : TypeId) | ptr (e : TypeId) | struct (fs : List (Nat × TypeId)) | array (n : Nat) (e : TypeId)
structure TI where
  known : Bool
  td : TD
  size : Nat
  agg : Bool
  zero : List Value
  bytes : Nat
  eqok : Bool
def AV.cells : AV → List AV
  | .agg cs => cs
  | v => [v]
def AV.isAgg : AV → Bool
  | .agg _ => true
  | _ => false
def AV.isBot : AV → Bool
  | .bot => true
  | _ => false
/-- may it lie in a cell that is written? -/
def AV.may : AV → Bool
  | .bot | .agg _ | .tup _ => false
  | .val v => match v with
    | .tuple _ | .agg _ => false
    | _ => true
  | _ => true
def mays : List AV → Bool
  | [] => true
  | a :: l => a.may && mays l
def ofCells : Bool → List AV → AV
  | false, [x] => x
  | _, cs => .agg cs
abbrev aint (n : Int) : AV := .val (.int .i64 n)
abbrev abool (b : Bool) : AV := .val (.bool b)
abbrev nilS : AV := .val (.slice none 0 0)
abbrev aundef : AV := .val (.tuple #[])
def get : Tm → Nat → AV
  | [], _ => .bot
  | (t, v) :: T, u => bif Nat.beq t u then v else get T u
def getB : Lh → Nat → Option Blk
  | [], _ => none
  | (t, v) :: T, u => bif Nat.beq t u then some v else getB T u
def aggsV : List Value → List AV
  | [] => []
  | v :: vs => .val v :: aggsV vs
def constAV : Value → AV
  | .agg cs => .agg (aggsV cs.toList)
  | v => .val v
/-- a constant whose cells are no aggregates -/
def constOk : Value → Bool
  | .agg cs => cs.toList.all fun v => match v with | .agg _ => false | _ => true
  | _ => true
structure Cfg where
  ks : List Item
  T : Tm
  L : Lh
  fr : List Nat
  C : Prop
/-- look a temporary up, and go on with what it holds -/
def getK {α : Type} (T : Tm) (u : Nat) (k : AV → α) : α := match T with
  | [] => k .bot
  | (t, v) :: T => bif Nat.beq t u then k v else getK T u k
def getBK {α : Type} (L : Lh) (u : Nat) (s : α) (k : Blk → α) : α := match L with
  | [] => s
  | (t, b) :: L => bif Nat.beq t u then k b else getBK L u s k
def evK {α : Type} (T : Tm) (x : Operand) (s : α) (k : AV → α) : α := match x with
  | .tmp t => getK T t k
  | .const v => match constOk v with
    | true => match v with
      | .agg cs => k (.agg (aggsV cs.toList))
      | v => k (.val v)
    | false => s
  | .func f => k (.fn f [])
  | .global _ => s
def evsK {α : Type} (T : Tm) (xs : List Operand) (s : α) (k : List AV → α) : α := match xs with
  | [] => k []
  | x :: xs => evK T x s fun v => evsK T xs s fun vs => k (v :: vs)
def intCmpOp (op : BinOp) (a b : Int) : Option Bool := match op with
  | .eql => some (a == b)
  | .neq => some (a != b)
  | .lss => some (decide (a < b))
  | .leq => some (decide (a ≤ b))
  | .gtr => some (decide (a > b))
  | .geq => some (decide (a ≥ b))
  | _ => none
def sameKind : IntKind → IntKind → Bool
  | .i8, .i8 | .i16, .i16 | .i32, .i32 | .i64, .i64 | .u8, .u8 | .u16, .u16 | .u32, .u32 | .u64, .u64 => true
  | _, _ => false
def eqVal : Value → Value → Option Bool
  | .int k a, .int k' b => bif sameKind k k' then some (a == b) else none
  | _, _ => none
def eqAVs : List AV → List AV → Option Bool
  | [], [] => some true
  | .val a :: x, .val b :: y => match eqVal a b with
    | some p => match eqAVs x y with
      | some q => some (p && q)
      | none => none
    | none => none
  | _, _ => none
def bitsOp (op : BinOp) (k : IntKind) (x y : Int) : Option Int :=
  match op with
  | .and => some (k.wrap ((BitVec.ofInt k.bits x &&& BitVec.ofInt k.bits y).toNat : Nat))
  | .or => some (k.wrap ((BitVec.ofInt k.bits x ||| BitVec.ofInt k.bits y).toNat : Nat))
  | .xor => some (k.wrap ((BitVec.ofInt k.bits x ^^^ BitVec.ofInt k.bits y).toNat : Nat))
  | .andNot => some (k.wrap ((BitVec.ofInt k.bits x &&& ~~~ BitVec.ofInt k.bits y).toNat : Nat))
  | _ => none
/-- a binary operation: its condition and its value -/
def binK {α : Type} (ty : TypeId → TI) (op : BinOp) (t : TypeId) (a b : AV) (s : α) (k : Prop → AV → α) : α := match a with
  | .val a => match b with
    | .val b => match a with
      | .int i x => match b with
        | .int j y => match op with
          | .shl => k (0 ≤ y) (.val (.int i (i.wrap (x * 2 ^ (min y.toNat i.bits)))))
          | .shr => k (0 ≤ y) (.val (.int i (x.fdiv (2 ^ (min y.toNat i.bits)))))
          | .add => match sameKind i j with | true => k True (.val (.int i (i.wrap (x + y)))) | false => s
          | .sub => match sameKind i j with | true => k True (.val (.int i (i.wrap (x - y)))) | false => s
          | .mul => match sameKind i j with | true => k True (.val (.int i (i.wrap (x * y)))) | false => s
          | .quo => match sameKind i j with | true => k (y ≠ 0) (.val (.int i (i.wrap (x.tdiv y)))) | false => s
          | .rem => match sameKind i j with | true => k (y ≠ 0) (.val (.int i (x.tmod y))) | false => s
          | _ => match sameKind i j with
            | true => match intCmpOp op x y with
              | some r => k True (abool r)
              | none => match bitsOp op i x y with
                | some r => k True (.val (.int i r))
                | none => s
            | false => s
        | _ => s
      | .bool x => match b with
        | .bool y => match (ty t).td with
          | .bool => match (ty t).known with
            | false => s
            | true => match op with
              | .eql => k True (abool (x == y))
              | .neq => k True (abool (!(x == y)))
              | _ => s
          | _ => s
        | _ => s
      | .string x => match b with
        | .string y => match op with
          | .eql => k True (abool (x.toList == y.toList))
          | .neq => k True (abool (!(x.toList == y.toList)))
          | _ => s
        | _ => s
      | _ => s
    | _ => s
  | .agg xs => match b with
    | .agg ys => match (ty t).eqok && (ty t).known && Nat.beq xs.length (ty t).size && Nat.beq ys.length (ty t).size with
      | true => match eqAVs xs ys with
        | some r => match op with
          | .eql => k True (abool r)
          | .neq => k True (abool (!r))
          | _ => s
        | none => s
      | false => s
    | _ => s
  | _ => s
def putCells (cs : List AV) (off : Nat) : List AV → List AV
  | [] => cs
  | v :: vs => putCells (cs.set off v) (off + 1) vs
def loadK {α : Type} (ty : TypeId → TI) (L : Lh) (t : TypeId) (p : AV) (s : α) (k : AV → α) : α := match (ty t).known with
  | false => s
  | true => match p with
    | .vp ag c x off => match Nat.beq off 0 && Nat.beq c (ty t).size && (ag == (ty t).agg) with
      | true => k x
      | false => match Nat.ble (off + (ty t).size) c with
        | true => k (ofCells (ty t).agg ((x.cells.drop off).take (ty t).size))
        | false => s
    | .ptr (.l n) off => getBK L n s fun b => match b with
      | .obj cs => match Nat.ble (off + (ty t).size) cs.length with
        | true => k (ofCells (ty t).agg ((cs.drop off).take (ty t).size))
        | false => s
      | .arr .. => s
    | _ => s
def storeK {α : Type} (ty : TypeId → TI) (L : Lh) (t : TypeId) (v p : AV) (s : α) (k : Lh → α) : α := match (ty t).known with
  | false => s
  | true => match p with
    | .ptr (.l n) off => getBK L n s fun b => match b with
      | .obj cs => match Nat.ble (off + (ty t).size) cs.length && Nat.beq v.cells.length (ty t).size && mays v.cells with
        | true => k ((n, .obj (putCells cs off v.cells)) :: L)
        | false => s
      | .arr .. => s
    | _ => s
def indexK {α : Type} (ty : TypeId → TI) (t : TypeId) (x i : AV) (s : α) (k : Prop → AV → α) : α := match i with
  | .val i => match i with
    | .int _ i => match x with
      | .vs ag c n f => match (ty t).td with
        | .slice e => match Nat.beq (ty e).size c && (ty t).known && (ty e).known with
          | true => k (0 ≤ i ∧ i < n) (.vp ag c (f i.toNat) 0)
          | false => s
        | _ => s
      | .sl id g c off n _ => match (ty t).td with
        | .slice e => match Nat.beq (ty e).size c && (ty t).known && (ty e).known with
          | true => k (0 ≤ i ∧ i < n) (.eptr id g c (off + i.toNat) 0)
          | false => s
        | _ => s
      | .ptr id off => match (ty t).td with
        | .array n e => match (ty t).known && (ty e).known && Nat.ble 2 n with
          | true => k (0 ≤ i ∧ i < n) (.ptr id (off + i.toNat * (ty e).size))
          | false => s
        | _ => s
      | .eptr id g c j off => match (ty t).td with
        | .array n e => match (ty t).known && (ty e).known && Nat.ble 2 n && Nat.beq (ty e).size c && Nat.beq off 0 with
          | true => k (0 ≤ i ∧ i < n) (.eptr id g c (j + i.toNat) 0)
          | false => s
        | _ => s
      | _ => s
    | _ => s
  | _ => s
def fieldK {α : Type} (ty : TypeId → TI) (t : TypeId) (x : AV) (j : Nat) (s : α) (k : AV → α) : α := match (ty t).known with
  | true => match (ty t).td with
    | .struct fs => match fs[j]? with
      | some (o, u) => match (ty u).known && Nat.ble 1 (ty u).size with
        | true => match x with
          | .ptr id off => k (.ptr id (off + o))
          | .eptr id g c i off => k (.eptr id g c i (off + o))
          | .vp ag c y off => k (.vp ag c y (off + o))
          | _ => s
        | false => s
      | none => s
    | _ => s
  | false => s
def fieldOfK {α : Type} (ty : TypeId → TI) (t : TypeId) (x : AV) (j : Nat) (s : α) (k : AV → α) : α := match (ty t).known with
  | true => match (ty t).td with
    | .struct fs => match fs[j]? with
      | some (o, u) => match x with
        | .agg cs => match (ty u).known && Nat.ble (o + (ty u).size) cs.length && Nat.ble 1 (ty u).size with
          | true => k (ofCells (ty u).agg ((cs.drop o).take (ty u).size))
          | false => s
        | _ => s
      | none => s
    | _ => s
  | false => s
mutual
/-- no name of a block -/
def AV.idFree : AV → Bool
  | .bot => true
  | .val _ => true
  | .agg cs => idFreeL cs
  | .tup cs => idFreeL cs
  | .fn _ cs => idFreeL cs
  | .ptr _ _ => false
  | .eptr _ _ _ _ _ => false
  | .vp _ _ _ _ => true
  | .sl _ _ _ _ _ _ => false
  | .vs _ _ _ _ => true
def idFreeL : List AV → Bool
  | [] => true
  | a :: l => a.idFree && idFreeL l
end
/-- an element of a row of one's own: read -/
def loadE {α : Type} (ty : TypeId → TI) (L : Lh) (t : TypeId) (p : AV) (s : α) (k : Prop → AV → α) : α := match p with
  | .eptr id g c i off => match id with
    | .l n => match (ty t).known with
      | false => s
      | true => getBK L n s fun b => match b with
        | .obj _ => s
        | .arr ag g' c' m f => match Nat.beq c c' with
          | false => s
          | true => match Nat.beq off 0 && Nat.beq c (ty t).size && (ag == (ty t).agg) with
            | true => k (i < m ∧ g' = g) (f i)
            | false => match Nat.ble (off + (ty t).size) c with
              | true => k (i < m ∧ g' = g) (ofCells (ty t).agg (((f i).cells.drop off).take (ty t).size))
              | false => s
    | _ => s
  | _ => s
def putE (ag : Bool) (x : AV) (off : Nat) (v : AV) : AV := match ag with
  | false => v
  | true => .agg (putCells x.cells off v.cells)
def storeE {α : Type} (ty : TypeId → TI) (L : Lh) (t : TypeId) (v p : AV) (s : α) (k : Prop → Lh → α) : α := match p with
  | .eptr id g c i off => match id with
    | .l n => match (ty t).known with
      | false => s
      | true => getBK L n s fun b => match b with
        | .obj _ => s
        | .arr ag g' c' m f => match Nat.beq c c' && Nat.ble (off + (ty t).size) c && Nat.beq v.cells.length (ty t).size && mays v.cells && v.idFree && (ag || (Nat.beq c 1 && !v.isAgg)) with
          | false => s
          | true => k (i < m ∧ g' = g) ((n, .arr ag g c m (fun j => bif Nat.beq j i then putE ag (f i) off v else f j)) :: L)
    | _ => s
  | _ => s
def lenK {α : Type} (ty : TypeId → TI) (t : TypeId) (x : AV) (s : α) (k : AV → α) : α := match (ty t).known with
  | false => s
  | true => match (ty t).td with
    | .slice _ => match x with
      | .vs _ _ n _ => k (aint n)
      | .sl _ _ _ _ n _ => k (aint n)
      | .val v => match v with
        | .slice a l _ => match a with
          | none => k (aint l)
          | some _ => s
        | _ => s
      | _ => s
    | .string => match x with
      | .val v => match v with
        | .string b => k (aint b.size)
        | _ => s
      | _ => s
    | _ => s
/-- x[lo:hi] -/
def sliceK {α : Type} (ty : TypeId → TI) (t : TypeId) (x : AV) (lo hi : Option AV) (s : α) (k : Prop → AV → α) : α := match (ty t).known with
  | false => s
  | true => match (ty t).td with
    | .slice e => match (ty e).known with
      | false => s
      | true => match x with
        | .vs ag c n f => match Nat.beq (ty e).size c with
          | true => boundsK n n lo hi s fun p l h => k p (.vs ag c (h - l) (fun i => f (i + l)))
          | false => s
        | .sl id g c off n cp => match Nat.beq (ty e).size c with
          | true => boundsK n cp lo hi s fun p l h => k p (.sl id g c (off + l) (h - l) (cp - l))
          | false => s
        | .val v => match v with
          | .slice a l cp => match a with
            | none => match l with
              | 0 => match cp with
                | 0 => boundsK 0 0 lo hi s fun p _ _ => k p (.val (.slice none 0 0))
                | _ => s
              | _ => s
            | some _ => s
          | _ => s
        | _ => s
    | .string => match x with
      | .val v => match v with
        | .string b => boundsK b.size b.size lo hi s fun p l h => k p (.val (.string (b.extract l h)))
        | _ => s
      | _ => s
    | _ => s
where
  boundsK {α : Type} (n cp : Nat) (lo hi : Option AV) (s : α) (k : Prop → Nat → Nat → α) : α := match lo with
    | none => match hi with
      | none => k True 0 n
      | some hi => match hi with
        | .val hi => match hi with
          | .int _ h => k (0 ≤ h ∧ h ≤ cp) 0 h.toNat
          | _ => s
        | _ => s
    | some lo => match lo with
      | .val lo => match lo with
        | .int _ l => match hi with
          | none => k (0 ≤ l ∧ l ≤ n) l.toNat n
          | some hi => match hi with
            | .val hi => match hi with
              | .int _ h => k (0 ≤ l ∧ l ≤ h ∧ h ≤ cp) l.toNat h.toNat
              | _ => s
            | _ => s
        | _ => s
      | _ => s
def optK {α : Type} (T : Tm) (x : Option Operand) (s : α) (k : Option AV → α) : α := match x with
  | none => k none
  | some x => evK T x s fun v => k (some v)
def minK {α : Type} (mx : Bool) (vs : List AV) (s : α) (k : AV → α) : α := match vs with
  | a :: b :: [] => match a with
    | .val a => match b with
      | .val b => match a with
        | .int i x => match b with
          | .int j y => match sameKind i j with
            | true => match mx with
              | false => k (.val (.int i (if y < x then y else x)))
              | true => k (.val (.int i (if y > x then y else x)))
            | false => s
          | _ => s
        | _ => s
      | _ => s
    | _ => s
  | _ => s
def setT (T : Tm) (d : Option Tmp) (v : AV) : Tm := match d with
  | some t => (t, v) :: T
  | none => T
/-- the parts of a struct literal, laid over its zero value -/
def fillA (fs : List (Nat × TypeId)) (cs : List AV) : List (Nat × AV) → List AV
  | [] => cs
  | (j, v) :: ps => match fs[j]? with
    | some (o, _) => fillA fs (putCells cs o v.cells) ps
    | none => fillA fs cs ps
def fillOk (ty : TypeId → TI) (fs : List (Nat × TypeId)) (n : Nat) : List (Nat × AV) → Bool
  | [] => true
  | (j, v) :: ps => match fs[j]? with
    | some (o, u) => (ty u).known && Nat.beq v.cells.length (ty u).size && Nat.ble (o + (ty u).size) n && (!v.isBot) && fillOk ty fs n ps
    | none => false
def partsK {α : Type} (T : Tm) (ps : List (Nat × Operand)) (s : α) (k : List (Nat × AV) → α) : α := match ps with
  | [] => k []
  | (j, x) :: ps => evK T x s fun v => partsK T ps s fun vs => k ((j, v) :: vs)
/-- the elements of a slice literal -/
def fillE (f : Nat → AV) : List (Nat × AV) → Nat → AV
  | [] => f
  | (i, v) :: ps => fillE (fun k => bif Nat.beq k i then v else f k) ps
def bsOk (ag : Bool) (c n : Nat) : List (Nat × AV) → Bool
  | [] => true
  | (i, v) :: ps => Nat.blt i n && Nat.beq v.cells.length c && (v.isAgg == ag) && mays v.cells && v.idFree && (!v.isBot) && bsOk ag c n ps
/-- a slice literal: a new row -/
def bsK {α : Type} (ty : TypeId → TI) (T : Tm) (L : Lh) (fr : List Nat) (t : TypeId) (len : Nat) (parts : List (Nat × Operand)) (s : α) (k : AV → Lh → List Nat → Prop → α) : α := match (ty t).known with
  | false => s
  | true => match (ty t).td with
    | .slice e => match (ty e).known && Nat.ble 1 (ty e).size && Nat.ble (len * (ty e).size) 16777216 && mays (aggsV (ty e).zero) with
      | false => s
      | true => match fr with
        | [] => s
        | n :: fr => partsK T parts s fun vs => match bsOk (ty e).agg (ty e).size len vs with
          | false => s
          | true => k (.sl (.l n) 0 (ty e).size 0 len len) ((n, .arr (ty e).agg 0 (ty e).size len (fillE (fun _ => ofCells (ty e).agg (aggsV (ty e).zero)) vs)) :: L) fr True
    | _ => s
/-- what is appended: its condition and its elements -/
def srcK {α : Type} (ty : TypeId → TI) (L : Lh) (e : TypeId) (x : AV) (s : α) (k : Prop → Nat → (Nat → AV) → α) : α := match x with
  | .vs ag c n f => match Nat.beq c (ty e).size && (ag == (ty e).agg) with
    | true => k True n f
    | false => s
  | .sl id g c off n _ => match id with
    | .l q => getBK L q s fun b => match b with
      | .obj _ => s
      | .arr ag g' c' m f => match Nat.beq c c' && Nat.beq c (ty e).size && (ag == (ty e).agg) with
        | true => k (off + n ≤ m ∧ g' = g) n (fun i => f (off + i))
        | false => s
    | _ => s
  | .val v => match v with
    | .slice a l _ => match a with
      | none => match l with
        | 0 => k True 0 (fun _ => .bot)
        | _ => s
      | some _ => s
    | _ => s
  | _ => s
/-- append -/
def appK {α : Type} (ty : TypeId → TI) (L : Lh) (fr : List Nat) (t tx : TypeId) (d x : AV) (s : α) (k : AV → Lh → List Nat → Prop → α) : α := match (ty t).known && (ty tx).known with
  | false => s
  | true => match (ty t).td with
    | .slice e => match (ty tx).td with
      | .slice _ => match (ty e).known && Nat.ble 1 (ty e).size with
        | false => s
        | true => srcK ty L e x s fun p n f => match d with
          | .sl id g c off len cp => match id with
            | .l q => getBK L q s fun b => match b with
              | .obj _ => s
              | .arr ag g' c' m f0 => match Nat.beq c c' && Nat.beq c (ty e).size && (ag == (ty e).agg) with
                | false => s
                | true => k (.sl (.l q) (g + 1) c 0 (len + n) (max cp (len + n))) ((q, .arr ag (g + 1) c (len + n) (fun i => bif Nat.blt i len then f0 (off + i) else f (i - len))) :: L) fr (p ∧ g' = g ∧ off + len ≤ m ∧ (len + n) * (ty e).bytes ≤ 140737488355328 ∧ len + n ≤ 9223372036854775807)
            | _ => s
          | .val v => match v with
            | .slice a l cp => match a with
              | none => match l with
                | 0 => match cp with
                  | 0 => match fr with
                    | q :: fr => k (.sl (.l q) 0 (ty e).size 0 n n) ((q, .arr (ty e).agg 0 (ty e).size n f) :: L) fr (p ∧ n * (ty e).bytes ≤ 140737488355328 ∧ n ≤ 9223372036854775807)
                    | [] => s
                  | _ => s
                | _ => s
              | some _ => s
            | _ => s
          | _ => s
      | _ => s
    | _ => s
/-- x[lo:hi:mx] -/
def slice3K {α : Type} (ty : TypeId → TI) (t : TypeId) (x lo hi mx : AV) (s : α) (k : Prop → AV → α) : α := match (ty t).known with
  | false => s
  | true => match (ty t).td with
    | .slice e => match (ty e).known with
      | false => s
      | true => match lo with
        | .val lo => match lo with
          | .int _ l => match hi with
            | .val hi => match hi with
              | .int _ h => match mx with
                | .val mx => match mx with
                  | .int _ m => match x with
                    | .vs ag c n f => match Nat.beq (ty e).size c with
                      | true => k (0 ≤ l ∧ l ≤ h ∧ h ≤ m ∧ m ≤ n) (.vs ag c (h.toNat - l.toNat) (fun i => f (i + l.toNat)))
                      | false => s
                    | .sl id g c off _ cp => match Nat.beq (ty e).size c with
                      | true => k (0 ≤ l ∧ l ≤ h ∧ h ≤ m ∧ m ≤ cp) (.sl id g c (off + l.toNat) (h.toNat - l.toNat) (m.toNat - l.toNat))
                      | false => s
                    | _ => s
                  | _ => s
                | _ => s
              | _ => s
            | _ => s
          | _ => s
        | _ => s
    | _ => s
/-- clear -/
def clearK {α : Type} (ty : TypeId → TI) (L : Lh) (t : TypeId) (x : AV) (s : α) (k : Prop → Lh → α) : α := match (ty t).known with
  | false => s
  | true => match (ty t).td with
    | .slice e => match (ty e).known && Nat.ble 1 (ty e).size && mays (aggsV (ty e).zero) with
      | false => s
      | true => match x with
        | .sl id g c off len _ => match id with
          | .l q => getBK L q s fun b => match b with
            | .obj _ => s
            | .arr ag g' c' m f => match Nat.beq c c' && Nat.beq c (ty e).size && (ag == (ty e).agg) with
              | false => s
              | true => k (g' = g) ((q, .arr ag g c m (fun i => bif Nat.ble off i && Nat.blt i (off + len) then ofCells (ty e).agg (aggsV (ty e).zero) else f i)) :: L)
          | _ => s
        | _ => s
    | _ => s
/-- a new variable -/
def allocK {α : Type} (ty : TypeId → TI) (L : Lh) (fr : List Nat) (e : TypeId) (s : α) (k : AV → Lh → List Nat → Prop → α) : α := match (ty e).known with
  | false => s
  | true => match fr with
    | [] => s
    | n :: fr => match (ty e).td with
      | .array m u => match (ty u).known && Nat.beq (ty u).size 1 && (!(ty u).agg) && Nat.beq (ty e).size m && mays (aggsV (ty e).zero) with
        | true => k (.eptr (.l n) 0 1 0 0) ((n, .arr false 0 1 m (fun i => (aggsV (ty e).zero).getD i .bot)) :: L) fr True
        | false => s
      | _ => k (.ptr (.l n) 0) ((n, .obj (aggsV (ty e).zero)) :: L) fr True
def numsOf (n : Nat) (f : Nat → AV) : List Int := (List.range n).map fun i => match f i with
  | .val (.int _ x) => x
  | _ => 0
/-- string(b) -/
def strK {α : Type} (ty : TypeId → TI) (L : Lh) (e : TypeId) (x : AV) (s : α) (k : Prop → AV → α) : α := match (ty e).known && Nat.beq (ty e).size 1 && (!(ty e).agg) with
  | false => s
  | true => match (ty e).td with
    | .int u => match u with
      | .u8 => srcK ty L e x s fun p n f => k (p ∧ ∀ i, i < n → ∃ x, f i = .val (.int .u8 x)) (.val (.string (strOfNums (numsOf n f))))
      | _ => s
    | _ => s
/-- []byte(s) -/
def bytesK {α : Type} (ty : TypeId → TI) (L : Lh) (fr : List Nat) (e : TypeId) (b : ByteArray) (s : α) (k : AV → Lh → List Nat → Prop → α) : α := match (ty e).known && Nat.beq (ty e).size 1 && (!(ty e).agg) with
  | false => s
  | true => match (ty e).td with
    | .int u => match u with
      | .u8 => match fr with
        | q :: fr => k (.sl (.l q) 0 1 0 b.size b.size) ((q, .arr false 0 1 b.size (fun i => .val (.int .u8 (b.data.getD i 0).toNat))) :: L) fr True
        | [] => s
      | _ => s
    | _ => s
/-- one operation: what it leaves, and its condition; s where it isn't taken -/
def stepK {α : Type} (ty : TypeId → TI) (T : Tm) (L : Lh) (fr : List Nat) (op : Op) (s : α) (k : AV → Lh → List Nat → Prop → α) : α := match op with
  | .move x => evK T x s fun v => k v L fr True
  | .assign x => evK T x s fun v => k v L fr True
  | .pick c a b => evK T c s fun c => match c with
    | .val c => match c with
      | .bool c => match c with
        | true => evK T a s fun v => k v L fr True
        | false => evK T b s fun v => k v L fr True
      | _ => s
    | _ => s
  | .alloc e => allocK ty L fr e s k
  | .box e x => match fr with
      | n :: fr => evK T x s fun v => match v.isBot with
        | false => k (.ptr (.l n) 0) ((n, .obj v.cells) :: L) fr True
        | true => s
      | [] => s
  | .load t a => evK T a s fun p => loadE ty L t p (loadK ty L t p s fun v => k v L fr True) fun c v => k v L fr c
  | .store t a x => evK T a s fun p => evK T x s fun v => storeE ty L t v p (storeK ty L t v p s fun L => k aundef L fr True) fun c L => k aundef L fr c
  | .binOp op t x y _ => evK T x s fun a => evK T y s fun b => binK ty op t a b s fun c v => k v L fr c
  | .unOp op _ x => evK T x s fun a => match op with
    | .not => match a with
      | .val v => match v with
        | .bool b => k (abool (!b)) L fr True
        | _ => s
      | _ => s
    | .neg => match a with
      | .val v => match v with
        | .int i n => k (.val (.int i (i.wrap (0 - n)))) L fr True
        | _ => s
      | _ => s
    | _ => s
  | .indexAddr t x i => evK T x s fun x => evK T i s fun i => indexK ty t x i s fun c v => k v L fr c
  | .slice t x lo hi mx => match mx with
    | none => evK T x s fun x => optK T lo s fun lo => optK T hi s fun hi => sliceK ty t x lo hi s fun c v => k v L fr c
    | some mx => match lo with
      | some lo => match hi with
        | some hi => evK T x s fun x => evK T lo s fun lo => evK T hi s fun hi => evK T mx s fun mx => slice3K ty t x lo hi mx s fun c v => k v L fr c
        | none => s
      | none => s
  | .fieldAddr t x j => evK T x s fun x => fieldK ty t x j s fun v => k v L fr True
  | .field t x j => evK T x s fun x => fieldOfK ty t x j s fun v => k v L fr True
  | .extract x j => evK T x s fun x => match x with
    | .tup cs => match cs[j]? with
      | some v => k v L fr True
      | none => s
    | _ => s
  | .makeFunc g first caps => match g with
    | .func f => match first.toList with
      | [] => evsK T caps.toList s fun vs => k (.fn f vs) L fr True
      | _ => s
    | _ => s
  | .nilCheck x => evK T x s fun x => match x with
    | .ptr id o => k (.ptr id o) L fr True
    | .eptr id g c i o => k (.eptr id g c i o) L fr True
    | .vp ag c y o => k (.vp ag c y o) L fr True
    | .fn f vs => k (.fn f vs) L fr True
    | _ => s
  | .convert src dst x => evK T x s fun x => match (ty src).known && (ty dst).known with
    | true => match (ty src).td with
      | .slice e => match (ty dst).td with
        | .string => strK ty L e x s fun c v => k v L fr c
        | _ => s
      | .string => match x with
        | .val v => match v with
          | .string b => match (ty dst).td with
            | .string => k (.val (.string b)) L fr True
            | .slice e => bytesK ty L fr e b s k
            | _ => s
          | _ => s
        | _ => s
      | _ => match x with
        | .val v => match v with
          | .int _ n => match (ty dst).td with
            | .int i => k (.val (.int i (i.wrap n))) L fr True
            | _ => s
          | _ => s
        | _ => s
    | false => s
  | .build t ps => match (ty t).known with
    | true => match (ty t).td with
      | .struct fs => partsK T ps.toList s fun vs => match fillOk ty fs (ty t).zero.length vs && fs.all (fun p => (ty p.2).known) with
        | true => k (.agg (fillA fs (aggsV (ty t).zero) vs)) L fr True
        | false => s
      | _ => s
    | false => s
  | .buildSlice t len parts => bsK ty T L fr t len parts.toList s k
  | .call c => match c.callee with
    | .builtin b => match b with
      | .len => match c.argTypes.toList with
        | t :: _ => evsK T c.args.toList s fun vs => match vs with
          | x :: _ => lenK ty t x s fun v => k v L fr True
          | [] => s
        | [] => s
      | .append => match c.argTypes.toList with
        | t :: tx :: _ => evsK T c.args.toList s fun vs => match vs with
          | d :: x :: [] => appK ty L fr t tx d x s k
          | _ => s
        | _ => s
      | .clear => match c.argTypes.toList with
        | t :: [] => evsK T c.args.toList s fun vs => match vs with
          | x :: [] => clearK ty L t x s fun c L => k aundef L fr c
          | _ => s
        | _ => s
      | .min => evsK T c.args.toList s fun vs => minK false vs s fun v => k v L fr True
      | .max => evsK T c.args.toList s fun vs => minK true vs s fun v => k v L fr True
      | _ => s
    | _ => s
  | _ => s
/-- operations that leave the heap as it is -/
def quietOp (ty : TypeId → TI) : Op → Bool
  | .alloc _ | .box _ _ | .store _ _ _ | .buildSlice _ _ _ => false
  | .convert src _ _ => match (ty src).td with
    | .string => false
    | _ => true
  | .call c => match c.callee with
    | .builtin b => match b with
      | .append | .clear => false
      | _ => true
    | _ => true
  | _ => true
/-- operations that do not look at the heap -/
def heapless : Op → Bool
  | .load _ _ => false
  | .convert _ _ _ => false
  | _ => true
/-- does a later operation of the region wait for what operation i says? -/
def isGuard (ops : List Oper) (i : Nat) : Bool := match ops with
  | [] => false
  | o :: ops => match o.guard with
    | some (j, _) => bif Nat.beq j i then true else isGuard ops i
    | none => isGuard ops i
/-- is operation o carried out? (yes, no, not told) -/
def guardK {α : Type} (ops : Array Oper) (T : Tm) (g : Option (Nat × Bool)) (s yes no : α) : α := match g with
  | none => yes
  | some (j, want) => match ops[j]? with
    | none => s
    | some o => match o.dst with
      | none => s
      | some t => getK T t fun v => match v with
        | .val v => match v with
          | .bool b => match b with
            | true => match want with | true => yes | false => no
            | false => match want with | true => no | false => yes
          | .tuple _ => no
          | _ => s
        | _ => s
def exitToL (id : Nat) (s : Cfg) (k : List Item → Cfg) : List Item → Cfg
  | .inBlock i :: ks => bif Nat.beq i id then k ks else exitToL id s k ks
  | _ :: ks => exitToL id s k ks
  | [] => s
/-- At most so many steps on; it stops at a condition, a loop, a call, a return, a region that draws, behind an operation that others wait for, and at what it doesn't take. -/
def adv (ty : TypeId → TI) (nt : Nat) : Nat → List Item → Tm → Lh → List Nat → Prop → Cfg
  | 0, ks, T, L, fr, C => ⟨ks, T, L, fr, C⟩
  | m + 1, ks, T, L, fr, C => match ks with
    | [] => ⟨ks, T, L, fr, C⟩
    | it :: rest => match it with
      | .inBlock _ => adv ty nt m rest T L fr C
      | .code c => match c with
        | .seq a b => adv ty nt m (.code a :: .code b :: rest) T L fr C
        | .skip => adv ty nt m rest T L fr C
        | .block id c => adv ty nt m (.code c :: .inBlock id :: rest) T L fr C
        | .exit id => exitToL id ⟨ks, T, L, fr, C⟩ (fun ks => adv ty nt m ks T L fr C) rest
        | .region _ ops draw => match draw with
          | false => adv ty nt m (.inRegion ops (List.range ops.size) :: rest) T L fr C
          | true => ⟨ks, T, L, fr, C⟩
        | _ => ⟨ks, T, L, fr, C⟩
      | .inRegion ops todo => match todo with
        | [] => adv ty nt m rest T L fr C
        | i :: is => match ops[i]? with
          | none => ⟨ks, T, L, fr, C⟩
          | some o => guardK ops T o.guard ⟨ks, T, L, fr, C⟩
            (stepK ty T L fr o.op ⟨ks, T, L, fr, C⟩ fun v L1 fr1 c => match o.dst with
              | none => adv ty nt m (.inRegion ops is :: rest) T L1 fr1 (c ∧ C)
              | some d => match Nat.blt d nt with
                | true => match isGuard ops.toList i with
                  | true => ⟨.inRegion ops is :: rest, (d, v) :: T, L1, fr1, c ∧ C⟩
                  | false => adv ty nt m (.inRegion ops is :: rest) ((d, v) :: T) L1 fr1 (c ∧ C)
                | false => ⟨ks, T, L, fr, C⟩)
            (match o.dst with
              | none => adv ty nt m (.inRegion ops is :: rest) T L fr C
              | some d => match Nat.blt d nt with
                | true => adv ty nt m (.inRegion ops is :: rest) ((d, aundef) :: T) L fr C
                | false => ⟨ks, T, L, fr, C⟩)
      | _ => ⟨ks, T, L, fr, C⟩
mutual
/-- other names for blocks -/
def AV.ren (f : Id → Id) : AV → AV
  | .bot => .bot
  | .val v => .val v
  | .agg cs => .agg (renL f cs)
  | .tup cs => .tup (renL f cs)
  | .fn g cs => .fn g (renL f cs)
  | .ptr id off => .ptr (f id) off
  | .eptr id g c i off => .eptr (f id) g c i off
  | .vp ag c x off => .vp ag c x off
  | .sl id g c off len cp => .sl (f id) g c off len cp
  | .vs ag c n g => .vs ag c n g
def renL (f : Id → Id) : List AV → List AV
  | [] => []
  | a :: l => a.ren f :: renL f l
end
def Blk.ren (f : Id → Id) : Blk → Blk
  | .obj cs => .obj (renL f cs)
  | .arr ag g c n h => .arr ag g c n h
def Id.av (p : Nat → Bool) : Id → Bool
  | .l k => !(p k)
  | _ => true
mutual
/-- no name of this call's that p bears -/
def AV.avoid (p : Nat → Bool) : AV → Bool
  | .bot => true
  | .val _ => true
  | .agg cs => avoidL p cs
  | .tup cs => avoidL p cs
  | .fn _ cs => avoidL p cs
  | .ptr id _ => id.av p
  | .eptr id _ _ _ _ => id.av p
  | .vp _ _ _ _ => true
  | .sl id _ _ _ _ _ => id.av p
  | .vs _ _ _ _ => true
def avoidL (p : Nat → Bool) : List AV → Bool
  | [] => true
  | a :: l => a.avoid p && avoidL p l
end
def Blk.avoid (p : Nat → Bool) : Blk → Bool
  | .obj cs => avoidL p cs
  | .arr .. => true
def avoidT (p : Nat → Bool) : Tm → Bool
  | [] => true
  | (_, v) :: T => v.avoid p && avoidT p T
def avoidB (p : Nat → Bool) : Lh → Bool
  | [] => true
  | (k, b) :: L => !(p k) && b.avoid p && avoidB p L
def memN (l : List Nat) (k : Nat) : Bool := match l with
  | [] => false
  | a :: l => bif Nat.beq a k then true else memN l k
def argT : List AV → Nat → Tm
  | [], _ => []
  | a :: l, n => (n, a) :: argT l (n + 1)
/-- the call that is to be made now: of which function, on what, its result's place, what is left -/
def callOf (ks : List Item) (T : Tm) : Option (FuncId × List AV × Nat × List Item) := match ks with
  | .inRegion ops (i :: is) :: rest => match ops[i]? with
    | some o => guardK ops T o.guard none (match o.op with
      | .call c => match c.callee with
        | .value x => evK T x none fun v => match v with
          | .fn f caps => evsK T c.args.toList none fun vs => match o.dst with
            | some d => some (f, vs ++ caps, d, .inRegion ops is :: rest)
            | none => none
          | _ => none
        | _ => none
      | _ => none) none
    | none => none
  | _ => none
def resK (ty : TypeId → TI) (T : Tm) (L : Lh) (rs : List ResultVar) (k : List AV → Option AV) : Option AV := match rs with
  | [] => k []
  | r :: rs => match r with
    | .tmp t => getK T t fun v => resK ty T L rs fun vs => k (v :: vs)
    | .cell a t => getK T a fun p => loadK ty L t p none fun v => resK ty T L rs fun vs => k (v :: vs)
def atRet (ks : List Item) : Bool := match ks with
  | [] => true
  | .code .ret :: _ => true
  | _ => false
/-- what is handed back -/
def retOf (ty : TypeId → TI) (fn : Func) (T : Tm) (L : Lh) : Option AV := resK ty T L fn.results.toList fun vs => match vs with
  | [v] => some v
  | vs => some (.tup vs)
end Go.AM
set_option linter.unusedVariables false
set_option linter.unusedSimpArgs false
namespace Go.AM
structure Env where
  w : World
  keep : Nat → Prop
structure Env.le (E E' : Env) : Prop where
  keep : ∀ k, E.keep k → E'.keep k
  same : ∀ k, E.keep k → E'.w.heap[k]? = E.w.heap[k]?
  os : E'.w.os = E.w.os
  tape : E'.w.tape = E.w.tape
  output : E'.w.output = E.w.output
theorem Env.le.refl (E : Env) : E.le E := ⟨fun _ h => h, fun _ _ => rfl, rfl, rfl, rfl⟩
theorem Env.le.trans {A B C : Env} (h : A.le B) (k : B.le C) : A.le C :=
  ⟨fun i hi => k.keep i (h.keep i hi), fun i hi => (k.same i (h.keep i hi)).trans (h.same i hi), k.os.trans h.os, k.tape.trans h.tape, k.output.trans h.output⟩
/-- What needs no memory of one's own. -/
inductive RelF (E : Env) : AV → Value → Prop
  | bot (v : Value) : RelF E .bot v
  | val (v : Value) : v.cells = #[v] → RelF E (.val v) v
  | agg (cs : List AV) (vs : Array Value) : cs.length = vs.size → (∀ i, i < cs.length → RelF E (cs.getD i .bot) (vs.getD i undef)) → RelF E (.agg cs) (.agg vs)
  | tup (cs : List AV) (vs : Array Value) : cs.length = vs.size → (∀ i, i < cs.length → RelF E (cs.getD i .bot) (vs.getD i undef)) → RelF E (.tup cs) (.tuple vs)
  | fn (f : FuncId) (cs : List AV) (vs : Array Value) : cs.length = vs.size → (∀ i, i < cs.length → RelF E (cs.getD i .bot) (vs.getD i undef)) → RelF E (.fn f cs) (.func (.func f) #[] vs)
  | vp (ag : Bool) (c : Nat) (x : AV) (off blk o : Nat) (vals : Nat → Value) : E.keep blk → x.cells.length = c → x.isAgg = ag → (∀ i, i < c → E.w.cell? ⟨blk, o + i, none⟩ = some (vals i)) → (∀ i, i < c → RelF E (x.cells.getD i .bot) (vals i)) →
      RelF E (.vp ag c x off) (.pointer (some ⟨blk, o + off, none⟩))
  | vs0 (ag : Bool) (c : Nat) (f : Nat → AV) (a : Option Addr) (cap : Nat) : RelF E (.vs ag c 0 f) (.slice a 0 cap)
  | vs (ag : Bool) (c n : Nat) (f : Nat → AV) (blk o cap : Nat) (vals : Nat → Nat → Value) : E.keep blk → n ≤ cap → (∀ i j, i < n → j < c → (vals i j).oneCell' = true) → (∀ i, i < n → (f i).cells.length = c) → (∀ i, i < n → (f i).isAgg = ag) →
      (∀ i j, i < n → j < c → E.w.cell? ⟨blk, o + i * c + j, none⟩ = some (vals i j)) → (∀ i j, i < n → j < c → RelF E ((f i).cells.getD j .bot) (vals i j)) →
      RelF E (.vs ag c n f) (.slice (some ⟨blk, o, none⟩) n cap)
structure Loc where
  blk : Nat
  base : Nat
  size : Nat
  nil : Bool
abbrev Io := Id → List Loc
def Io.le (ι ι' : Io) : Prop := ∀ (id : Id) (g : Nat) (loc : Loc), (ι id)[g]? = some loc → (ι' id)[g]? = some loc
theorem Io.le.refl (ι : Io) : Io.le ι ι := fun _ _ _ h => h
theorem Io.le.trans {a b c : Io} (h : Io.le a b) (k : Io.le b c) : Io.le a c := fun i g l x => k i g l (h i g l x)
inductive Rel (E : Env) (ι : Io) : AV → Value → Prop
  | F {a : AV} {v : Value} : RelF E a v → Rel E ι a v
  | agg (cs : List AV) (vs : Array Value) : cs.length = vs.size → (∀ i, i < cs.length → Rel E ι (cs.getD i .bot) (vs.getD i undef)) → Rel E ι (.agg cs) (.agg vs)
  | tup (cs : List AV) (vs : Array Value) : cs.length = vs.size → (∀ i, i < cs.length → Rel E ι (cs.getD i .bot) (vs.getD i undef)) → Rel E ι (.tup cs) (.tuple vs)
  | fn (f : FuncId) (cs : List AV) (vs : Array Value) : cs.length = vs.size → (∀ i, i < cs.length → Rel E ι (cs.getD i .bot) (vs.getD i undef)) → Rel E ι (.fn f cs) (.func (.func f) #[] vs)
  | ptr (id : Id) (off : Nat) (loc : Loc) : (ι id)[0]? = some loc → Rel E ι (.ptr id off) (.pointer (some ⟨loc.blk, off, none⟩))
  | eptr (id : Id) (g c i off : Nat) (loc : Loc) : (ι id)[g]? = some loc → loc.nil = false → Rel E ι (.eptr id g c i off) (.pointer (some ⟨loc.blk, loc.base + i * c + off, none⟩))
  | sl0 (id : Id) (g c off : Nat) (loc : Loc) (a : Option Addr) : (ι id)[g]? = some loc → Rel E ι (.sl id g c off 0 0) (.slice a 0 0)
  | sl (id : Id) (g c off len cp cap : Nat) (loc : Loc) : (ι id)[g]? = some loc → loc.nil = false → len ≤ cp → cp ≤ cap → loc.base + (off + cap) * c ≤ loc.size → Rel E ι (.sl id g c off len cp) (.slice (some ⟨loc.blk, loc.base + off * c, none⟩) len cap)
theorem RelF.mono {E E' : Env} (hE : E.le E') {a : AV} {v : Value} (h : RelF E a v) : RelF E' a v := by
  induction h with
  | bot v => exact .bot v
  | val v h => exact .val v h
  | agg cs vs hl _ ih => exact .agg cs vs hl ih
  | tup cs vs hl _ ih => exact .tup cs vs hl ih
  | fn f cs vs hl _ ih => exact .fn f cs vs hl ih
  | vp ag c x off blk o vals hk hc ha hv _ ih =>
    refine .vp ag c x off blk o vals (hE.keep _ hk) hc ha (fun i hi => ?_) ih
    have := hv i hi
    simp only [World.cell?, hE.same _ hk] at this ⊢
    exact this
  | vs0 ag c f a cap => exact .vs0 ag c f a cap
  | vs ag c n f blk o cap vals hk hcap h1 hc ha hv _ ih =>
    refine .vs ag c n f blk o cap vals (hE.keep _ hk) hcap h1 hc ha (fun i j hi hj => ?_) ih
    have := hv i j hi hj
    simp only [World.cell?, hE.same _ hk] at this ⊢
    exact this
theorem Rel.mono {E E' : Env} {ι ι' : Io} (hE : E.le E') (hι : Io.le ι ι') {a : AV} {v : Value} (h : Rel E ι a v) : Rel E' ι' a v := by
  induction h with
  | F h => exact .F (h.mono hE)
  | agg cs vs hl _ ih => exact .agg cs vs hl ih
  | tup cs vs hl _ ih => exact .tup cs vs hl ih
  | fn f cs vs hl _ ih => exact .fn f cs vs hl ih
  | ptr id off loc h => exact .ptr id off loc (hι _ _ _ h)
  | eptr id g c i off loc h hn => exact .eptr id g c i off loc (hι _ _ _ h) hn
  | sl0 id g c off loc a h => exact .sl0 id g c off loc a (hι _ _ _ h)
  | sl id g c off len cp cap loc h hn hl hcap hc => exact .sl id g c off len cp cap loc (hι _ _ _ h) hn hl hcap hc
/-- a block of cells that may be written -/
def Cells (w : World) (blk : Nat) (vs : Array Value) : Prop := ∃ t fr, w.heap[blk]? = some (.cells vs t fr) ∧ ∀ i, i < vs.size → ¬ (fr.1 ≤ i ∧ i < fr.2)
def BlkOk (E : Env) (ι : Io) (w : World) (id : Id) : Blk → Prop
  | .obj cs => ∃ loc vs, ι id = [loc] ∧ loc.nil = false ∧ Cells w loc.blk vs ∧ vs.size = cs.length ∧ ∀ i, i < cs.length → Rel E ι (cs.getD i .bot) (vs.getD i undef)
  | .arr ag g c n f => (∀ i, i < n → (f i).cells.length = c ∧ (f i).isAgg = ag) ∧ ∃ loc, (ι id).length = g + 1 ∧ (ι id)[g]? = some loc ∧ (loc.nil = true → n = 0) ∧
      (loc.nil = false → ∃ vs, Cells w loc.blk vs ∧ vs.size = loc.size ∧ loc.base + n * c ≤ loc.size ∧ ∀ i j, i < n → j < c → (vs.getD (loc.base + i * c + j) undef).oneCell' = true ∧ RelF E ((f i).cells.getD j .bot) (vs.getD (loc.base + i * c + j) undef))
/-- where a block lies now -/
def place (ι : Io) (id : Id) : Option Nat := match (ι id).getLast? with
  | some loc => if loc.nil then none else some loc.blk
  | none => none
structure Den (E : Env) (ι : Io) (h : Hp) (w : World) : Prop where
  kept : ∀ k, E.keep k → w.heap[k]? = E.w.heap[k]? ∧ k < E.w.heap.size
  os : w.os = E.w.os
  tape : w.tape = E.w.tape
  output : w.output = E.w.output
  ok : ∀ id b, h id = some b → BlkOk E ι w id b
  apart : ∀ id id' b b' k, h id = some b → h id' = some b' → id ≠ id' → place ι id = some k → place ι id' ≠ some k
  own : ∀ id b k, h id = some b → place ι id = some k → ¬ E.keep k
theorem Rel.bot {E : Env} {ι : Io} (v : Value) : Rel E ι .bot v := .F (.bot v)
/-- a value's cells -/
theorem Rel.cells {E : Env} {ι : Io} {a : AV} {v : Value} (h : Rel E ι a v) (hb : a.isBot = false) : a.cells.length = v.cells.size ∧ ∀ i, i < a.cells.length → Rel E ι (a.cells.getD i .bot) (v.cells.getD i undef) := by
  have one : ∀ {a : AV} {v : Value}, Rel E ι a v → a.cells = [a] → v.cells = #[v] → a.cells.length = v.cells.size ∧ ∀ i, i < a.cells.length → Rel E ι (a.cells.getD i .bot) (v.cells.getD i undef) := by
    intro a v h ha hv
    rw [ha, hv]
    refine ⟨rfl, fun i hi => ?_⟩
    have : i = 0 := by simp at hi; omega
    subst this
    exact h
  cases h with
  | F h =>
    cases h with
    | bot v => simp [AV.isBot] at hb
    | val v h => exact one (.F (.val v h)) rfl h
    | agg cs vs hl hr => exact ⟨hl, fun i hi => .F (hr i hi)⟩
    | tup cs vs hl hr => exact one (.F (.tup cs vs hl hr)) rfl rfl
    | fn f cs vs hl hr => exact one (.F (.fn f cs vs hl hr)) rfl rfl
    | vp ag c x off blk o vals hk hc ha hv hr => exact one (.F (.vp ag c x off blk o vals hk hc ha hv hr)) rfl rfl
    | vs0 ag c f a cap => exact one (.F (.vs0 ag c f a cap)) rfl rfl
    | vs ag c n f blk o cap vals hk hcap h1 hc ha hv hr => exact one (.F (.vs ag c n f blk o cap vals hk hcap h1 hc ha hv hr)) rfl rfl
  | agg cs vs hl hr => exact ⟨hl, hr⟩
  | tup cs vs hl hr => exact one (.tup cs vs hl hr) rfl rfl
  | fn f cs vs hl hr => exact one (.fn f cs vs hl hr) rfl rfl
  | ptr id off loc h => exact one (.ptr id off loc h) rfl rfl
  | eptr id g c i off loc h hn => exact one (.eptr id g c i off loc h hn) rfl rfl
  | sl0 id g c off loc a h => exact one (.sl0 id g c off loc a h) rfl rfl
  | sl id g c off len cp cap loc h hn hl hcap hc => exact one (.sl id g c off len cp cap loc h hn hl hcap hc) rfl rfl
/-- a value out of cells -/
theorem Rel.ofCells {E : Env} {ι : Io} {ag : Bool} {cs : List AV} {vs : Array Value} (hl : cs.length = vs.size) (hr : ∀ i, i < cs.length → Rel E ι (cs.getD i .bot) (vs.getD i undef)) (h1 : ag = false → cs.length = 1) :
    Rel E ι (ofCells ag cs) (if ag then .agg vs else vs.getD 0 undef) := by
  cases ag with
  | true =>
    have : AM.ofCells true cs = .agg cs := by unfold AM.ofCells; rfl
    rw [this]; exact .agg cs vs hl hr
  | false =>
    obtain ⟨x, rfl⟩ : ∃ x, cs = [x] := by
      match cs, h1 rfl with
      | [x], _ => exact ⟨x, rfl⟩
    exact hr 0 (by simp)
end Go.AM
set_option linter.unusedVariables false
set_option linter.unusedSimpArgs false
namespace Go.AM
def TDok : TypeDesc → TD → Prop
  | .bool, .bool => True
  | .string, .string => True
  | .int k, .int k' => k = k'
  | .slice e, .slice e' => e = e'
  | .pointer e, .ptr e' => e = e'
  | .array n e, .array n' e' => n = n' ∧ e = e'
  | .struct fs, .struct gs => gs = fs.toList.map fun f => (f.offset, f.type)
  | _, .other => True
  | _, _ => False
structure TyGood (P : Program) (t : TypeId) (x : TI) : Prop where
  info : ∃ i z, P.info? t = some i ∧ i.size = x.size ∧ i.bytes = x.bytes ∧ i.zero = some z ∧ z.cells.toList = x.zero
  zsize : x.zero.length = x.size
  zone : ∀ v ∈ x.zero, v.cells = #[v]
  desc : ∃ d, P.underlying t = some d ∧ d.isRow = x.agg ∧ TDok d x.td
  one : x.agg = false → x.size = 1
  eq : x.eqok = true → ∀ (w : World) (a b : Operand) (xs ys : Array Value) (r : Bool), eqAVs (aggsV xs.toList) (aggsV ys.toList) = some r → xs.size = x.size → ys.size = x.size →
    (do eqGuard .eql t a b (.agg xs) (.agg ys); binOp .eql t (.agg xs) (.agg ys) : Sem Value).run P w = .ok (.bool r) w ∧
    (do eqGuard .neq t a b (.agg xs) (.agg ys); binOp .neq t (.agg xs) (.agg ys) : Sem Value).run P w = .ok (.bool (!r)) w
def TyOk (P : Program) (ty : TypeId → TI) : Prop := ∀ t, (ty t).known = true → TyGood P t (ty t)
def TOk (E : Env) (ι : Io) (T : Tm) (tmps : Array Value) : Prop := ∀ t, Rel E ι (get T t) (tmps.getD t undef)
theorem getK_eq {α : Type} (T : Tm) (u : Nat) (k : AV → α) : getK T u k = k (get T u) := by
  induction T with
  | nil => rfl
  | cons p T ih =>
    obtain ⟨t, v⟩ := p
    simp only [getK, get]
    cases Nat.beq t u with
    | true => rfl
    | false => exact ih
theorem getBK_eq {α : Type} (L : Lh) (u : Nat) (s : α) (k : Blk → α) : getBK L u s k = match getB L u with | some b => k b | none => s := by
  induction L with
  | nil => rfl
  | cons p T ih =>
    obtain ⟨t, v⟩ := p
    simp only [getBK, getB]
    cases Nat.beq t u with
    | true => rfl
    | false => exact ih
def ev (T : Tm) : Operand → Option AV
  | .tmp t => some (get T t)
  | .const v => match constOk v with
    | true => some (constAV v)
    | false => none
  | .func f => some (.fn f [])
  | .global _ => none
theorem evK_eq {α : Type} (T : Tm) (x : Operand) (s : α) (k : AV → α) : evK T x s k = match ev T x with | some v => k v | none => s := by
  cases x with
  | const v => simp only [evK, ev]; cases constOk v <;> first | rfl | (cases v <;> rfl)
  | _ => simp [evK, ev, getK_eq]
def evs (T : Tm) : List Operand → Option (List AV)
  | [] => some []
  | x :: xs => match ev T x with
    | some v => match evs T xs with
      | some vs => some (v :: vs)
      | none => none
    | none => none
theorem evsK_eq {α : Type} (T : Tm) (xs : List Operand) (s : α) (k : List AV → α) : evsK T xs s k = match evs T xs with | some v => k v | none => s := by
  induction xs generalizing k with
  | nil => rfl
  | cons x xs ih =>
    simp only [evsK, evs, evK_eq]
    cases ev T x with
    | none => rfl
    | some v =>
      simp only [ih]
      cases evs T xs with
      | none => rfl
      | some vs => rfl
theorem aggsV_length (l : List Value) : (aggsV l).length = l.length := by induction l <;> simp_all [aggsV]
theorem aggsV_get (l : List Value) (i : Nat) (h : i < l.length) : (aggsV l).getD i .bot = .val (l[i]) := by
  induction l generalizing i with
  | nil => simp at h
  | cons v l ih =>
    cases i with
    | zero => rfl
    | succ i => simpa [aggsV] using ih i (by simpa using h)
theorem cells_one {v : Value} (h : ∀ cs, v ≠ .agg cs) : v.cells = #[v] := by cases v <;> simp_all [Value.cells]
theorem rel_const {E : Env} {ι : Io} (v : Value) (h : constOk v = true) : Rel E ι (constAV v) v := by
  by_cases ha : ∃ cs, v = .agg cs
  · obtain ⟨cs, rfl⟩ := ha
    refine .F (.agg _ _ (by simp [aggsV_length]) fun i hi => ?_)
    rw [aggsV_length] at hi
    rw [aggsV_get _ _ hi]
    have hm : cs.getD i undef = cs.toList[i] := by
      have hi' : i < cs.size := by simpa using hi
      simp [hi']
    rw [hm]
    refine .val _ (cells_one fun cs' e => ?_)
    simp only [constOk, List.all_eq_true] at h
    have := h cs.toList[i] (List.getElem_mem _)
    rw [e] at this
    cases this
  · have : constAV v = .val v := by cases v <;> simp_all [constAV]
    rw [this]
    exact .F (.val _ (cells_one fun cs e => ha ⟨cs, e⟩))
theorem ev_rel {E : Env} {ι : Io} {T : Tm} {a : Act} {x : Operand} {v : AV} (hT : TOk E ι T a.tmps) (h : ev T x = some v) : Rel E ι v (a.eval x) := by
  cases x with
  | tmp t => simp only [ev, Option.some.injEq] at h; subst h; exact hT t
  | const c =>
    simp only [ev] at h
    split at h
    · rename_i hc
      simp only [Option.some.injEq] at h; subst h; exact rel_const c hc
    · cases h
  | func f => simp only [ev, Option.some.injEq] at h; subst h; exact .F (.fn f [] #[] rfl (fun i hi => by simp at hi))
  | global g => simp [ev] at h
theorem evs_rel {E : Env} {ι : Io} {T : Tm} {a : Act} {xs : List Operand} {vs : List AV} (hT : TOk E ι T a.tmps) (h : evs T xs = some vs) :
    vs.length = xs.length ∧ ∀ i, i < vs.length → Rel E ι (vs.getD i .bot) ((xs.map a.eval).getD i undef) := by
  induction xs generalizing vs with
  | nil => simp only [evs, Option.some.injEq] at h; subst h; exact ⟨rfl, fun i hi => by simp at hi⟩
  | cons x xs ih =>
    simp only [evs] at h
    split at h
    · rename_i v hv
      split at h
      · rename_i ws hw
        simp only [Option.some.injEq] at h
        subst h
        obtain ⟨h1, h2⟩ := ih hw
        refine ⟨by simp [h1], fun i hi => ?_⟩
        cases i with
        | zero => exact ev_rel hT hv
        | succ i => simpa using h2 i (by simpa using hi)
      · cases h
    · cases h
section
variable {E : Env} {ι : Io}
theorem rel_val {x v : Value} (h : Rel E ι (.val x) v) : v = x ∧ x.cells = #[x] := by
  cases h with
  | F h => cases h with | val _ h => exact ⟨rfl, h⟩
theorem rel_agg {cs : List AV} {v : Value} (h : Rel E ι (.agg cs) v) : ∃ vs, v = .agg vs ∧ cs.length = vs.size ∧ ∀ i, i < cs.length → Rel E ι (cs.getD i .bot) (vs.getD i undef) := by
  cases h with
  | F h => cases h with | agg _ vs hl hr => exact ⟨vs, rfl, hl, fun i hi => .F (hr i hi)⟩
  | agg _ vs hl hr => exact ⟨vs, rfl, hl, hr⟩
theorem rel_tup {cs : List AV} {v : Value} (h : Rel E ι (.tup cs) v) : ∃ vs, v = .tuple vs ∧ cs.length = vs.size ∧ ∀ i, i < cs.length → Rel E ι (cs.getD i .bot) (vs.getD i undef) := by
  cases h with
  | F h => cases h with | tup _ vs hl hr => exact ⟨vs, rfl, hl, fun i hi => .F (hr i hi)⟩
  | tup _ vs hl hr => exact ⟨vs, rfl, hl, hr⟩
theorem rel_fn {f : FuncId} {cs : List AV} {v : Value} (h : Rel E ι (.fn f cs) v) : ∃ vs, v = .func (.func f) #[] vs ∧ cs.length = vs.size ∧ ∀ i, i < cs.length → Rel E ι (cs.getD i .bot) (vs.getD i undef) := by
  cases h with
  | F h => cases h with | fn _ _ vs hl hr => exact ⟨vs, rfl, hl, fun i hi => .F (hr i hi)⟩
  | fn _ _ vs hl hr => exact ⟨vs, rfl, hl, hr⟩
theorem rel_ptr {id : Id} {off : Nat} {v : Value} (h : Rel E ι (.ptr id off) v) : ∃ loc, (ι id)[0]? = some loc ∧ v = .pointer (some ⟨loc.blk, off, none⟩) := by
  cases h with
  | F h => cases h
  | ptr _ _ loc h => exact ⟨loc, h, rfl⟩
theorem rel_eptr {id : Id} {g c i off : Nat} {v : Value} (h : Rel E ι (.eptr id g c i off) v) : ∃ loc, (ι id)[g]? = some loc ∧ loc.nil = false ∧ v = .pointer (some ⟨loc.blk, loc.base + i * c + off, none⟩) := by
  cases h with
  | F h => cases h
  | eptr _ _ _ _ _ loc h hn => exact ⟨loc, h, hn, rfl⟩
theorem rel_vp {ag : Bool} {c : Nat} {x : AV} {off : Nat} {v : Value} (h : Rel E ι (.vp ag c x off) v) : ∃ (blk o : Nat) (vals : Nat → Value), v = .pointer (some ⟨blk, o + off, none⟩) ∧ E.keep blk ∧ x.cells.length = c ∧ x.isAgg = ag ∧
    (∀ i, i < c → E.w.cell? ⟨blk, o + i, none⟩ = some (vals i)) ∧ (∀ i, i < c → RelF E (x.cells.getD i .bot) (vals i)) := by
  cases h with
  | F h => cases h with | vp _ _ _ _ blk o vals hk hc ha hv hr => exact ⟨blk, o, vals, rfl, hk, hc, ha, hv, hr⟩
theorem rel_vs {ag : Bool} {c n : Nat} {f : Nat → AV} {v : Value} (h : Rel E ι (.vs ag c n f) v) : ∃ a cap, v = .slice a n cap ∧ (n = 0 ∨ ∃ (blk o : Nat) (vals : Nat → Nat → Value), a = some ⟨blk, o, none⟩ ∧ E.keep blk ∧ n ≤ cap ∧ (∀ i j, i < n → j < c → (vals i j).oneCell' = true) ∧ (∀ i, i < n → (f i).cells.length = c) ∧ (∀ i, i < n → (f i).isAgg = ag) ∧
    (∀ i j, i < n → j < c → E.w.cell? ⟨blk, o + i * c + j, none⟩ = some (vals i j)) ∧ (∀ i j, i < n → j < c → RelF E ((f i).cells.getD j .bot) (vals i j))) := by
  cases h with
  | F h => cases h with
    | vs0 _ _ _ a cap => exact ⟨a, cap, rfl, .inl rfl⟩
    | vs _ _ _ _ blk o cap vals hk hcap h1 hc ha hv hr => exact ⟨_, cap, rfl, .inr ⟨blk, o, vals, rfl, hk, hcap, h1, hc, ha, hv, hr⟩⟩
theorem rel_sl {id : Id} {g c off len cp : Nat} {v : Value} (h : Rel E ι (.sl id g c off len cp) v) : ∃ loc a cap, (ι id)[g]? = some loc ∧ v = .slice a len cap ∧ (len = 0 ∧ cp = 0 ∧ cap = 0 ∨ loc.nil = false ∧ len ≤ cp ∧ cp ≤ cap ∧ loc.base + (off + cap) * c ≤ loc.size ∧ a = some ⟨loc.blk, loc.base + off * c, none⟩) := by
  cases h with
  | F h => cases h
  | sl0 _ _ _ _ loc a h => exact ⟨loc, a, 0, h, rfl, .inl ⟨rfl, rfl, rfl⟩⟩
  | sl _ _ _ _ _ _ cap loc h hn hl hcap hc => exact ⟨loc, _, cap, h, rfl, .inr ⟨hn, hl, hcap, hc, rfl⟩⟩
theorem rel_vals {cs : List AV} {vs : Array Value} {bs : List AV} {r : Bool} (h : eqAVs cs bs = some r) (hl : cs.length = vs.size) (hr : ∀ i, i < cs.length → Rel E ι (cs.getD i .bot) (vs.getD i undef)) : cs = aggsV vs.toList := by
  obtain ⟨vs⟩ := vs
  induction vs generalizing cs bs r with
  | nil =>
    have : cs = [] := by simpa using hl
    subst this; rfl
  | cons v vs ih =>
    match cs, bs, h, hl, hr with
    | [], [], _, hl, _ => simp at hl
    | .val a :: cs, .val b :: bs, h, hl, hr =>
      have h0 := (rel_val (hr 0 (by simp))).1
      have h0' : v = a := by simpa using h0
      subst h0'
      simp only [eqAVs] at h
      split at h
      · split at h
        · rename_i q hq
          have := ih hq (by simpa using hl) (fun i hi => by simpa using hr (i + 1) (by simpa using hi))
          simp only [aggsV]
          rw [this]
        · cases h
      · cases h
theorem rel_vals' {cs : List AV} {vs : Array Value} {bs : List AV} {r : Bool} (h : eqAVs bs cs = some r) (hl : cs.length = vs.size) (hr : ∀ i, i < cs.length → Rel E ι (cs.getD i .bot) (vs.getD i undef)) : cs = aggsV vs.toList := by
  obtain ⟨vs⟩ := vs
  induction vs generalizing cs bs r with
  | nil =>
    have : cs = [] := by simpa using hl
    subst this; rfl
  | cons v vs ih =>
    match bs, cs, h, hl, hr with
    | [], [], _, hl, _ => simp at hl
    | .val b :: bs, .val a :: cs, h, hl, hr =>
      have h0 := (rel_val (hr 0 (by simp))).1
      have h0' : v = a := by simpa using h0
      subst h0'
      simp only [eqAVs] at h
      split at h
      · split at h
        · rename_i q hq
          have := ih hq (by simpa using hl) (fun i hi => by simpa using hr (i + 1) (by simpa using hi))
          simp only [aggsV]
          rw [this]
        · cases h
      · cases h
end
theorem sameKind_eq {i j : IntKind} (h : sameKind i j = true) : i = j := by cases i <;> cases j <;> first | rfl | cases h
theorem eqGuard_scalar {P : Program} (op : BinOp) (t : TypeId) (x y : Operand) (a b : Value) (w : World) (ha : ∀ cs, a ≠ .agg cs) (hi : a ≠ .nilIface) : (eqGuard op t x y a b).run P w = .ok () w := by
  unfold eqGuard
  cases op <;> simp <;> (split <;> simp_all)
theorem run_intCmp {P : Program} {op : BinOp} {t : TypeId} {i : IntKind} {x y : Int} {r : Bool} (h : intCmpOp op x y = some r) (w : World) : (binOp op t (.int i x) (.int i y)).run P w = .ok (.bool r) w := by
  cases op <;> first
    | (simp only [intCmpOp] at h; cases h; done)
    | (simp only [intCmpOp, Option.some.injEq] at h; subst h; simp [binOp, Op.intCmp])
theorem run_intBits {P : Program} {op : BinOp} {t : TypeId} {i : IntKind} {x y r : Int} (h : bitsOp op i x y = some r) (w : World) : (binOp op t (.int i x) (.int i y)).run P w = .ok (.int i r) w := by
  cases op <;> first
    | (simp only [bitsOp] at h; cases h; done)
    | (simp only [bitsOp, Option.some.injEq] at h; subst h; simp only [binOp, Op.intBits]; rw [if_neg (by simp)]; rfl)
set_option maxHeartbeats 2000000 in
theorem binK_sound {α : Type} {P : Program} {ty : TypeId → TI} (hty : TyOk P ty) (op : BinOp) (t : TypeId) (a b : AV) (s : α) (k : Prop → AV → α) :
    binK ty op t a b s k = s ∨ ∃ c v, binK ty op t a b s k = k c v ∧ (c → ∀ (E : Env) (ι : Io) (w : World) (x y : Operand) (va vb : Value), Rel E ι a va → Rel E ι b vb →
      ∃ r, (do eqGuard op t x y va vb; binOp op t va vb : Sem Value).run P w = .ok r w ∧ Rel E ι v r) := by
  unfold binK
  split
  · rename_i a
    split
    · rename_i b
      split
      · rename_i i x
        split
        · rename_i j y
          have big : ∀ (c : Prop) (r : Value), r.cells = #[r] → (c → ∀ (t : TypeId) (w : World), (binOp op t (.int i x) (.int j y)).run P w = .ok r w) → ∃ c' v, k c (.val r) = k c' v ∧ (c' → ∀ (E : Env) (ι : Io) (w : World) (x' y' : Operand) (va vb : Value), Rel E ι (.val (.int i x)) va → Rel E ι (.val (.int j y)) vb →
              ∃ r, (do eqGuard op t x' y' va vb; binOp op t va vb : Sem Value).run P w = .ok r w ∧ Rel E ι v r) := by
            intro c r hr hb
            refine ⟨c, _, rfl, fun hc E ι w x' y' va vb h1 h2 => ⟨r, ?_, .F (.val _ hr)⟩⟩
            obtain ⟨rfl, _⟩ := rel_val h1
            obtain ⟨rfl, _⟩ := rel_val h2
            rw [Sem.run_bind, eqGuard_scalar _ _ _ _ _ _ _ (by simp) (by simp)]
            exact hb hc t w
          split
          · exact .inr (big _ _ rfl fun hc t w => by simp [binOp, Op.shift, show ¬ y < 0 by omega])
          · exact .inr (big _ _ rfl fun hc t w => by simp [binOp, Op.shift, show ¬ y < 0 by omega])
          · split
            · rename_i hk; have := sameKind_eq hk; subst this
              exact .inr (big _ _ rfl fun hc t w => by simp [binOp, Op.intArith])
            · exact .inl rfl
          · split
            · rename_i hk; have := sameKind_eq hk; subst this
              exact .inr (big _ _ rfl fun hc t w => by simp [binOp, Op.intArith])
            · exact .inl rfl
          · split
            · rename_i hk; have := sameKind_eq hk; subst this
              exact .inr (big _ _ rfl fun hc t w => by simp [binOp, Op.intArith])
            · exact .inl rfl
          · split
            · rename_i hk; have := sameKind_eq hk; subst this
              exact .inr (big _ _ rfl fun hc t w => by simp [binOp, Op.intDiv, hc])
            · exact .inl rfl
          · split
            · rename_i hk; have := sameKind_eq hk; subst this
              exact .inr (big _ _ rfl fun hc t w => by simp [binOp, Op.intDiv, hc])
            · exact .inl rfl
          · split
            · rename_i hk; have := sameKind_eq hk; subst this
              split
              · rename_i r hr
                exact .inr (big _ _ rfl fun hc t w => run_intCmp hr w)
              · split
                · rename_i r hr
                  exact .inr (big _ _ rfl fun hc t w => run_intBits hr w)
                · exact .inl rfl
            · exact .inl rfl
        · exact .inl rfl
      · rename_i x
        split
        · rename_i y
          split
          · rename_i hd
            split
            · exact .inl rfl
            · rename_i hkn
              obtain ⟨d, hd1, _, hd2⟩ := (hty t hkn).desc
              rw [hd] at hd2
              have hdb : d = .bool := by cases d <;> simp_all [TDok]
              subst hdb
              have key : ∀ w : World, (Op.equal t (.bool x) (.bool y)).run P w = .ok (x == y) w := fun w => by
                unfold Op.equal Op.maxDepth
                exact run_equalIn_bool' w _ t x y hd1
              split
              · refine .inr ⟨_, _, rfl, fun _ E ι w x' y' va vb h1 h2 => ⟨.bool (x == y), ?_, .F (.val _ rfl)⟩⟩
                obtain ⟨rfl, _⟩ := rel_val h1
                obtain ⟨rfl, _⟩ := rel_val h2
                rw [Sem.run_bind, eqGuard_scalar _ _ _ _ _ _ _ (by simp) (by simp)]
                simp [binOp, key]
              · refine .inr ⟨_, _, rfl, fun _ E ι w x' y' va vb h1 h2 => ⟨.bool (!(x == y)), ?_, .F (.val _ rfl)⟩⟩
                obtain ⟨rfl, _⟩ := rel_val h1
                obtain ⟨rfl, _⟩ := rel_val h2
                rw [Sem.run_bind, eqGuard_scalar _ _ _ _ _ _ _ (by simp) (by simp)]
                simp [binOp, key]
              · exact .inl rfl
          · exact .inl rfl
        · exact .inl rfl
      · rename_i x
        split
        · rename_i y
          split
          · refine .inr ⟨_, _, rfl, fun _ E ι w x' y' va vb h1 h2 => ⟨.bool (x.toList == y.toList), ?_, .F (.val _ rfl)⟩⟩
            obtain ⟨rfl, _⟩ := rel_val h1
            obtain ⟨rfl, _⟩ := rel_val h2
            rw [Sem.run_bind, eqGuard_scalar _ _ _ _ _ _ _ (by simp) (by simp)]
            simp [binOp, Op.stringOp]
          · refine .inr ⟨_, _, rfl, fun _ E ι w x' y' va vb h1 h2 => ⟨.bool (!(x.toList == y.toList)), ?_, .F (.val _ rfl)⟩⟩
            obtain ⟨rfl, _⟩ := rel_val h1
            obtain ⟨rfl, _⟩ := rel_val h2
            rw [Sem.run_bind, eqGuard_scalar _ _ _ _ _ _ _ (by simp) (by simp)]
            simp [binOp, Op.stringOp]
          · exact .inl rfl
        · exact .inl rfl
      · exact .inl rfl
    · exact .inl rfl
  · rename_i xs
    split
    · rename_i ys
      split
      · rename_i he
        split
        · rename_i r hr
          simp only [Bool.and_eq_true, Nat.beq_eq] at he
          obtain ⟨⟨⟨he, fits1⟩, fits2⟩, fits3⟩ := he
          split
          · refine .inr ⟨_, _, rfl, fun _ E ι w x' y' va vb h1 h2 => ⟨.bool r, ?_, .F (.val _ rfl)⟩⟩
            obtain ⟨u, rfl, hu, ru⟩ := rel_agg h1
            obtain ⟨v, rfl, hv, rv⟩ := rel_agg h2
            have e1 := rel_vals hr hu ru
            have e2 := rel_vals' hr hv rv
            subst e1 e2
            exact ((hty t fits1).eq he w x' y' u v r hr (by rw [aggsV_length] at fits2; simpa using fits2) (by rw [aggsV_length] at fits3; simpa using fits3)).1
          · refine .inr ⟨_, _, rfl, fun _ E ι w x' y' va vb h1 h2 => ⟨.bool (!r), ?_, .F (.val _ rfl)⟩⟩
            obtain ⟨u, rfl, hu, ru⟩ := rel_agg h1
            obtain ⟨v, rfl, hv, rv⟩ := rel_agg h2
            have e1 := rel_vals hr hu ru
            have e2 := rel_vals' hr hv rv
            subst e1 e2
            exact ((hty t fits1).eq he w x' y' u v r hr (by rw [aggsV_length] at fits2; simpa using fits2) (by rw [aggsV_length] at fits3; simpa using fits3)).2
          · exact .inl rfl
        · exact .inl rfl
      · exact .inl rfl
    · exact .inl rfl
  · exact .inl rfl
end Go.AM
set_option linter.unusedVariables false
set_option linter.unusedSimpArgs false
namespace Go.AM
def putV (cs : Array Value) (o : Nat) : List Value → Array Value
  | [] => cs
  | v :: vs => putV (cs.setIfInBounds o v) (o + 1) vs
theorem putV_size (vs : List Value) : ∀ (cs : Array Value) (o : Nat), (putV cs o vs).size = cs.size := by
  induction vs with
  | nil => intro cs o; rfl
  | cons v vs ih => intro cs o; rw [putV, ih]; simp
theorem putV_get (vs : List Value) : ∀ (cs : Array Value) (o i : Nat), o + vs.length ≤ cs.size → (putV cs o vs).getD i undef = if o ≤ i ∧ i < o + vs.length then vs.getD (i - o) undef else cs.getD i undef := by
  induction vs with
  | nil => intro cs o i h; rw [putV, if_neg (by simp only [List.length_nil]; omega)]
  | cons v vs ih =>
    intro cs o i h
    simp only [List.length_cons] at h
    rw [putV, ih _ _ _ (by simp; omega)]
    by_cases h1 : o + 1 ≤ i ∧ i < o + 1 + vs.length
    · rw [if_pos h1, if_pos (by simp; omega)]
      obtain ⟨j, hj⟩ : ∃ j, i = o + 1 + j := ⟨i - (o + 1), by omega⟩
      subst hj
      rw [show o + 1 + j - (o + 1) = j by omega, show o + 1 + j - o = j + 1 by omega]
      simp
    · rw [if_neg h1]
      by_cases h2 : i = o
      · subst h2
        rw [if_pos (by simp)]
        simp [show i < cs.size by omega]
      · rw [if_neg (by simp only [List.length_cons]; omega)]
        simp [Array.getElem?_setIfInBounds_ne (Ne.symm h2)]
theorem putCells_length (vs : List AV) : ∀ (cs : List AV) (o : Nat), (putCells cs o vs).length = cs.length := by
  induction vs with
  | nil => intro cs o; rfl
  | cons v vs ih => intro cs o; rw [putCells, ih]; simp
theorem putCells_get (vs : List AV) : ∀ (cs : List AV) (o i : Nat), o + vs.length ≤ cs.length → (putCells cs o vs).getD i .bot = if o ≤ i ∧ i < o + vs.length then vs.getD (i - o) .bot else cs.getD i .bot := by
  induction vs with
  | nil => intro cs o i h; rw [putCells, if_neg (by simp only [List.length_nil]; omega)]
  | cons v vs ih =>
    intro cs o i h
    simp only [List.length_cons] at h
    rw [putCells, ih _ _ _ (by simp; omega)]
    by_cases h1 : o + 1 ≤ i ∧ i < o + 1 + vs.length
    · rw [if_pos h1, if_pos (by simp; omega)]
      obtain ⟨j, hj⟩ : ∃ j, i = o + 1 + j := ⟨i - (o + 1), by omega⟩
      subst hj
      rw [show o + 1 + j - (o + 1) = j by omega, show o + 1 + j - o = j + 1 by omega]
      simp
    · rw [if_neg h1]
      by_cases h2 : i = o
      · subst h2
        rw [if_pos (by simp)]
        simp [show i < cs.length by omega]
      · rw [if_neg (by simp only [List.length_cons]; omega)]
        simp [List.getElem?_set_ne (Ne.symm h2)]
theorem Cells.cell {w : World} {b : Nat} {vs : Array Value} (h : Cells w b vs) {i : Nat} (hi : i < vs.size) : w.cell? ⟨b, i, none⟩ = some (vs.getD i undef) := by
  obtain ⟨t, fr, h1, _⟩ := h
  simp [World.cell?, h1, hi]
theorem Cells.frozen {w : World} {b : Nat} {vs : Array Value} (h : Cells w b vs) {i : Nat} (hi : i < vs.size) : w.frozen? ⟨b, i, none⟩ = false := by
  obtain ⟨t, fr, h1, h2⟩ := h
  have := h2 i hi
  simp only [World.frozen?, h1]
  simp only [Bool.and_eq_false_iff, decide_eq_false_iff_not]
  omega
theorem Cells.lt {w : World} {b : Nat} {vs : Array Value} (h : Cells w b vs) : b < w.heap.size := by
  obtain ⟨t, fr, h1, _⟩ := h
  exact (Array.getElem?_eq_some_iff.1 h1).1
theorem Cells.eq {w : World} {b : Nat} {vs us : Array Value} (h : Cells w b vs) (h' : Cells w b us) : vs = us := by
  obtain ⟨t, fr, h1, _⟩ := h
  obtain ⟨t', fr', h1', _⟩ := h'
  rw [h1] at h1'
  simp at h1'
  exact h1'.1
theorem Cells.of_heap {w w' : World} {b : Nat} {vs : Array Value} (h : Cells w b vs) (he : w'.heap[b]? = w.heap[b]?) : Cells w' b vs := by
  obtain ⟨t, fr, h1, h2⟩ := h
  exact ⟨t, fr, he.trans h1, h2⟩
theorem heap_setCells_ne (vs : List Value) : ∀ (w : World) (b o k : Nat), k ≠ b → (w.setCells b o vs).heap[k]? = w.heap[k]? := by
  induction vs with
  | nil => intro w b o k _; rfl
  | cons v vs ih =>
    intro w b o k h
    rw [World.setCells, ih _ _ _ _ h]
    simp only [World.setCell, Array.getElem?_modify]
    rw [if_neg (by simpa using Ne.symm h)]
theorem Cells.set {w : World} {b : Nat} {cs : Array Value} (h : Cells w b cs) (vs : List Value) : ∀ (o : Nat), Cells (w.setCells b o vs) b (putV cs o vs) := by
  induction vs generalizing w cs with
  | nil => intro o; exact h
  | cons v vs ih =>
    intro o
    rw [World.setCells, putV]
    refine ih ?_ _
    obtain ⟨t, fr, h1, h2⟩ := h
    refine ⟨t, fr, ?_, fun i hi => h2 i (by simpa using hi)⟩
    simp only [World.setCell, Array.getElem?_modify]
    simp [h1]
theorem setCells_os (vs : List Value) : ∀ (w : World) (b o : Nat), (w.setCells b o vs).os = w.os ∧ (w.setCells b o vs).tape = w.tape ∧ (w.setCells b o vs).output = w.output := by
  induction vs with
  | nil => intro w b o; exact ⟨rfl, rfl, rfl⟩
  | cons v vs ih => intro w b o; rw [World.setCells]; exact ih _ _ _
theorem BlkOk.mono {E E' : Env} {ι ι' : Io} {w w' : World} {id : Id} {b : Blk} (hE : E.le E') (hι : Io.le ι ι') (hid : ι' id = ι id) (hw : ∀ k, place ι id = some k → w'.heap[k]? = w.heap[k]?) (h : BlkOk E ι w id b) : BlkOk E' ι' w' id b := by
  cases b with
  | obj cs =>
    obtain ⟨loc, vs, h1, hn, h2, h3, h4⟩ := h
    refine ⟨loc, vs, hid.trans h1, hn, h2.of_heap (hw _ ?_), h3, fun i hi => (h4 i hi).mono hE hι⟩
    simp [place, h1, hn]
  | arr ag g c n f =>
    obtain ⟨h0, loc, h1, h2, h3, h4⟩ := h
    refine ⟨h0, loc, by rw [hid]; exact h1, by rw [hid]; exact h2, h3, fun hn => ?_⟩
    obtain ⟨vs, h5, h6, h7, h8⟩ := h4 hn
    refine ⟨vs, h5.of_heap (hw _ ?_), h6, h7, fun i j hi hj => ⟨(h8 i j hi hj).1, (h8 i j hi hj).2.mono hE⟩⟩
    unfold place
    rw [List.getLast?_eq_getElem?, h1]
    simp [h2, hn]
theorem Den.lt {E : Env} {ι : Io} {h : Hp} {w : World} (d : Den E ι h w) {id : Id} {b : Blk} {k : Nat} (hb : h id = some b) (hk : place ι id = some k) : k < w.heap.size := by
  have := d.ok id b hb
  cases b with
  | obj cs =>
    obtain ⟨loc, vs, h1, hn, h2, _⟩ := this
    simp [place, h1, hn] at hk
    subst hk
    exact h2.lt
  | arr ag g c n f =>
    obtain ⟨_, loc, h1, h2, h3, h4⟩ := this
    unfold place at hk
    rw [List.getLast?_eq_getElem?, h1] at hk
    simp only [Nat.add_one_sub_one, h2] at hk
    split at hk
    · cases hk
    · rename_i hn
      obtain ⟨vs, h5, _⟩ := h4 (by simpa using hn)
      cases hk
      exact h5.lt
theorem Den.keep_lt {E : Env} {ι : Io} {h : Hp} {w : World} (d : Den E ι h w) {k : Nat} (hk : E.keep k) : k < w.heap.size := by
  obtain ⟨h1, h2⟩ := d.kept k hk
  rw [Array.getElem?_eq_getElem h2] at h1
  exact (Array.getElem?_eq_some_iff.1 h1).1
/-- a name that no block has -/
theorem Den.none {E : Env} {ι : Io} {h : Hp} {w : World} (d : Den E ι h w) {id : Id} (hi : ι id = []) : h id = none := by
  cases hb : h id with
  | none => rfl
  | some b =>
    have := d.ok id b hb
    cases b with
    | obj cs => obtain ⟨loc, vs, h1, _⟩ := this; rw [hi] at h1; cases h1
    | arr ag g c n f => obtain ⟨_, loc, h1, h2, _⟩ := this; rw [hi] at h2; simp at h2
def upd (h : Hp) (id : Id) (b : Blk) : Hp := fun i => if i = id then some b else h i
def ins (ι : Io) (id : Id) (l : List Loc) : Io := fun i => if i = id then l else ι i
theorem ins_le {ι : Io} {id : Id} {l : List Loc} (h : ι id = [] ∨ ∃ r, l = ι id ++ r) : Io.le ι (ins ι id l) := by
  intro i g loc hg
  unfold ins
  split
  · rename_i e
    subst e
    rcases h with h | ⟨r, rfl⟩
    · rw [h] at hg; simp at hg
    · exact List.getElem?_append_left (List.getElem?_eq_some_iff.1 hg).1 ▸ hg
  · exact hg
theorem ins_same (ι : Io) (id : Id) (l : List Loc) : ins ι id l id = l := by simp [ins]
theorem ins_ne {ι : Io} {id i : Id} {l : List Loc} (h : i ≠ id) : ins ι id l i = ι i := by simp [ins, h]
/-- A new block. -/
theorem Den.new {E : Env} {ι : Io} {h : Hp} {w : World} (d : Den E ι h w) {id : Id} (hi : ι id = []) (cells : Array Value) (t : TypeId) (fr : Nat × Nat) (loc : Loc) (hloc : loc.blk = w.heap.size) (hn : loc.nil = false) (b : Blk)
    (hb : BlkOk E (ins ι id [loc]) { w with heap := w.heap.push (.cells cells t fr) } id b) :
    Den E (ins ι id [loc]) (upd h id b) { w with heap := w.heap.push (.cells cells t fr) } := by
  have hle : Io.le ι (ins ι id [loc]) := ins_le (.inl hi)
  have hp : ∀ k, k < w.heap.size → ({ w with heap := w.heap.push (.cells cells t fr) } : World).heap[k]? = w.heap[k]? := fun k hk => by
    show (w.heap.push _)[k]? = _
    rw [Array.getElem?_push, if_neg (by omega)]
  have pid : place (ins ι id [loc]) id = some w.heap.size := by simp [place, ins_same, hn, hloc]
  have pne : ∀ i, i ≠ id → place (ins ι id [loc]) i = place ι i := fun i h => by unfold place; rw [ins_ne h]
  constructor
  · intro k hk
    have := d.kept k hk
    exact ⟨(hp k (d.keep_lt hk)).trans this.1, this.2⟩
  · exact d.os
  · exact d.tape
  · exact d.output
  · intro i b' hb'
    unfold upd at hb'
    split at hb'
    · rename_i e; subst e; cases hb'; exact hb
    · rename_i e
      exact (d.ok i b' hb').mono (Env.le.refl E) hle (ins_ne e) (fun k hk => hp k (d.lt hb' hk))
  · intro i i' b1 b2 k h1 h2 hne hk hk'
    unfold upd at h1 h2
    split at h1
    · rename_i e
      subst e
      rw [pid] at hk
      split at h2
      · rename_i e2; exact hne e2.symm
      · rename_i e2
        rw [pne _ e2] at hk'
        have := d.lt h2 hk'
        cases hk
        omega
    · rename_i e
      rw [pne _ e] at hk
      split at h2
      · rename_i e2
        subst e2
        rw [pid] at hk'
        have := d.lt h1 hk
        cases hk'
        omega
      · rename_i e2
        rw [pne _ e2] at hk'
        exact d.apart i i' b1 b2 k h1 h2 hne hk hk'
  · intro i b' k h1 hk hkeep
    unfold upd at h1
    split at h1
    · rename_i e
      subst e
      rw [pid] at hk
      have := d.keep_lt hkeep
      cases hk
      omega
    · rename_i e
      rw [pne _ e] at hk
      exact d.own i b' k h1 hk hkeep
/-- A block of one's own is written (or told anew): its place stays. -/
theorem Den.put {E : Env} {ι : Io} {h : Hp} {w w' : World} (d : Den E ι h w) {id : Id} {b b' : Blk} (hb : h id = some b) (hw : ∀ k, place ι id ≠ some k → w'.heap[k]? = w.heap[k]?) (ho : w'.os = w.os) (ht : w'.tape = w.tape) (hou : w'.output = w.output)
    (hb' : BlkOk E ι w' id b') : Den E ι (upd h id b') w' := by
  constructor
  · intro k hk
    have := d.kept k hk
    exact ⟨(hw k (fun e => d.own id b k hb e hk)).trans this.1, this.2⟩
  · exact ho.trans d.os
  · exact ht.trans d.tape
  · exact hou.trans d.output
  · intro i c hc
    unfold upd at hc
    split at hc
    · rename_i e; subst e; cases hc; exact hb'
    · rename_i e
      exact (d.ok i c hc).mono (Env.le.refl E) (Io.le.refl ι) rfl (fun k hk => hw k (fun e2 => d.apart i id c b k hc hb e hk e2))
  · intro i i' b1 b2 k h1 h2 hne hk hk'
    have g1 : ∃ c, h i = some c := by unfold upd at h1; split at h1; { rename_i e; exact ⟨b, e ▸ hb⟩ }; { exact ⟨_, h1⟩ }
    have g2 : ∃ c, h i' = some c := by unfold upd at h2; split at h2; { rename_i e; exact ⟨b, e ▸ hb⟩ }; { exact ⟨_, h2⟩ }
    obtain ⟨c1, g1⟩ := g1
    obtain ⟨c2, g2⟩ := g2
    exact d.apart i i' c1 c2 k g1 g2 hne hk hk'
  · intro i c k h1 hk
    have g1 : ∃ c, h i = some c := by unfold upd at h1; split at h1; { rename_i e; exact ⟨b, e ▸ hb⟩ }; { exact ⟨_, h1⟩ }
    obtain ⟨c1, g1⟩ := g1
    exact d.own i c1 k g1 hk
/-- A draw. -/
theorem Den.drew {E : Env} {ι : Io} {h : Hp} {w : World} (d : Den E ι h w) (n : Nat) : Den E ι h { w with drawn := n } :=
  ⟨d.kept, d.os, d.tape, d.output, fun i b hb => (d.ok i b hb).mono (Env.le.refl E) (Io.le.refl ι) rfl (fun _ _ => rfl), d.apart, d.own⟩
def hp (h : Hp) (L : Lh) : Hp
  | .o i => (h i).map (Blk.ren .o)
  | .l k => getB L k
  | .n _ => none
theorem hp_cons (h : Hp) (n : Nat) (b : Blk) (L : Lh) : hp h ((n, b) :: L) = upd (hp h L) (.l n) b := by
  funext i
  unfold upd
  cases i with
  | o i => simp [hp]
  | n j => simp [hp]
  | l k =>
    simp only [hp, getB, Id.l.injEq]
    cases hk : Nat.beq n k with
    | true => rw [if_pos (Nat.eq_of_beq_eq_true hk).symm]; rfl
    | false => rw [if_neg (fun e => by subst e; simp at hk)]; rfl
end Go.AM
set_option linter.unusedVariables false
set_option linter.unusedSimpArgs false
namespace Go.AM
variable {P : Program}
theorem run_size {t : TypeId} {x : TI} (g : TyGood P t x) (w : World) : (sizeOf t).run P w = .ok x.size w := by
  obtain ⟨i, z, h1, h2, _⟩ := g.info
  simp [sizeOf, typeInfo, h1, h2]
theorem run_agg {t : TypeId} {x : TI} (g : TyGood P t x) (w : World) : (isAgg t).run P w = .ok x.agg w := by
  obtain ⟨d, h1, h2, _⟩ := g.desc
  unfold isAgg
  rw [Sem.run_bind, run_underlying h1 w, ← h2]
  cases d <;> rfl
theorem run_loadCells_fn (w : World) (b o n : Nat) (vals : Nat → Value) (h : ∀ i, i < n → w.cell? ⟨b, o + i, none⟩ = some (vals i)) : (loadCells ⟨b, o, none⟩ n).run P w = .ok ((List.range n).map vals).toArray w := by
  have := run_loadCells_list (P := P) w ⟨b, o, none⟩ ((List.range n).map vals) (fun j v hv => by
    rw [Addr.add_mid]
    rw [List.getElem?_map] at hv
    by_cases hj : j < n
    · rw [List.getElem?_range hj] at hv
      cases hv
      exact h j hj
    · rw [List.getElem?_eq_none (by simp; omega)] at hv
      cases hv)
  simpa using this
theorem run_loadAt {t : TypeId} {x : TI} (g : TyGood P t x) (w : World) (b o : Nat) (vals : Nat → Value) (h : ∀ i, i < x.size → w.cell? ⟨b, o + i, none⟩ = some (vals i)) :
    (Instr.loadAt t (.pointer (some ⟨b, o, none⟩))).run P w = .ok (if x.agg then .agg ((List.range x.size).map vals).toArray else ((List.range x.size).map vals).toArray.getD 0 undef) w := by
  simp only [Instr.loadAt, Instr.sureAddr, loadVar, Sem.run_bind, Sem.run_pure, Result.andThen_ok, run_agg g w]
  cases ha : x.agg with
  | true => simp [Sem.run_bind, run_size g w, run_loadCells_fn w b o x.size vals h]
  | false =>
    have h1 := g.one ha
    have := h 0 (by omega)
    simp only [Nat.add_zero] at this
    simp [load, Sem.run, this, h1]
theorem ofCells_rel {E : Env} {ι : Io} {ag : Bool} {cs : List AV} {n : Nat} {vals : Nat → Value} (hl : cs.length = n) (h1 : ag = false → n = 1) (hr : ∀ i, i < n → Rel E ι (cs.getD i .bot) (vals i)) :
    Rel E ι (ofCells ag cs) (if ag then .agg ((List.range n).map vals).toArray else ((List.range n).map vals).toArray.getD 0 undef) :=
  Rel.ofCells (by simp [hl]) (fun i hi => by
    have hi' : i < n := by omega
    have : ((List.range n).map vals).toArray.getD i undef = vals i := by simp [hi']
    rw [this]
    exact hr i hi') (fun h => by rw [hl]; exact h1 h)
theorem ofCells_cells {a : AV} (hb : a.isAgg = false → a.cells.length = 1) : ofCells a.isAgg a.cells = a := by
  cases a <;> rfl
theorem drop_take_getD (cs : List AV) (off n i : Nat) (hi : i < n) (_hl : off + n ≤ cs.length) : ((cs.drop off).take n).getD i .bot = cs.getD (off + i) .bot := by
  simp [List.getElem?_take, hi, List.getElem?_drop]
theorem loadK_sound {α : Type} {ty : TypeId → TI} (hty : TyOk P ty) (L : Lh) (t : TypeId) (p : AV) (s : α) (k : AV → α) :
    loadK ty L t p s k = s ∨ ∃ v, loadK ty L t p s k = k v ∧ ∀ (E : Env) (ι : Io) (h : Hp) (w : World) (vp : Value), Den E ι (hp h L) w → Rel E ι p vp → ∃ r, (Instr.loadAt t vp).run P w = .ok r w ∧ Rel E ι v r := by
  unfold loadK
  split
  · exact .inl rfl
  · rename_i hk
    have g := hty t hk
    split
    · rename_i ag c x off
      have get : ∀ {E : Env} {ι : Io} {h : Hp} {w : World} {vp : Value}, Den E ι (hp h L) w → Rel E ι (.vp ag c x off) vp → ∃ (blk o : Nat) (vals : Nat → Value), vp = .pointer (some ⟨blk, o + off, none⟩) ∧ x.cells.length = c ∧ x.isAgg = ag ∧
          (∀ i, i < c → w.cell? ⟨blk, o + i, none⟩ = some (vals i)) ∧ (∀ i, i < c → RelF E (x.cells.getD i .bot) (vals i)) := by
        intro E ι h w vp d hr
        obtain ⟨blk, o, vals, rfl, hke, hc, ha, hv, hrr⟩ := rel_vp hr
        refine ⟨blk, o, vals, rfl, hc, ha, fun i hi => ?_, hrr⟩
        have := hv i hi
        simp only [World.cell?, (d.kept _ hke).1] at this ⊢
        exact this
      split
      · rename_i hb
        simp only [Bool.and_eq_true, Nat.beq_eq, beq_iff_eq] at hb
        obtain ⟨⟨h1, h2⟩, h3⟩ := hb
        refine .inr ⟨_, rfl, fun E ι h w vp d hr => ?_⟩
        obtain ⟨blk, o, vals, rfl, hc, ha, hv, hrr⟩ := get d hr
        subst h1
        refine ⟨_, run_loadAt g w blk (o + 0) vals (fun i hi => hv i (by omega)), ?_⟩
        have := ofCells_rel (E := E) (ι := ι) (ag := (ty t).agg) (cs := x.cells) (n := (ty t).size) (vals := vals) (by omega) g.one (fun i hi => .F (hrr i (by omega)))
        rw [← h3, ← ha, ofCells_cells (fun hx => by rw [ha, h3] at hx; have := g.one hx; omega)] at this
        rw [← h3, ← ha]
        exact this
      · split
        · rename_i hle
          rw [Nat.ble_eq] at hle
          refine .inr ⟨_, rfl, fun E ι h w vp d hr => ?_⟩
          obtain ⟨blk, o, vals, rfl, hc, ha, hv, hrr⟩ := get d hr
          refine ⟨_, run_loadAt g w blk (o + off) (fun i => vals (off + i)) (fun i hi => by rw [Nat.add_assoc]; exact hv _ (by omega)), ?_⟩
          exact ofCells_rel (by simp; omega) g.one (fun i hi => by rw [drop_take_getD _ _ _ _ hi (by omega)]; exact .F (hrr _ (by omega)))
        · exact .inl rfl
    · rename_i n off
      rw [getBK_eq]
      split
      · rename_i b hb
        split
        · rename_i cs
          split
          · rename_i hle
            rw [Nat.ble_eq] at hle
            refine .inr ⟨_, rfl, fun E ι h w vp d hr => ?_⟩
            obtain ⟨loc, hl, rfl⟩ := rel_ptr hr
            obtain ⟨loc', vs, h1, hn, h2, h3, h4⟩ := d.ok (.l n) (.obj cs) hb
            rw [h1] at hl
            cases hl
            refine ⟨_, run_loadAt g w loc.blk off (fun i => vs.getD (off + i) undef) (fun i hi => h2.cell (by omega)), ?_⟩
            exact ofCells_rel (by simp; omega) g.one (fun i hi => by rw [drop_take_getD _ _ _ _ hi hle]; exact h4 _ (by omega))
          · exact .inl rfl
        · exact .inl rfl
      · exact .inl rfl
    · exact .inl rfl
theorem may_one {E : Env} {ι : Io} {a : AV} {v : Value} (h : Rel E ι a v) (hm : a.may = true) : v.oneCell' = true := by
  cases h with
  | F h =>
    cases h with
    | bot v => simp [AV.may] at hm
    | val v h => cases v <;> simp_all [AV.may, Value.oneCell', Value.cells]
    | agg cs vs hl hr => simp [AV.may] at hm
    | tup cs vs hl hr => simp [AV.may] at hm
    | fn f cs vs hl hr => rfl
    | vp ag c x off blk o vals hk hc ha hv hr => rfl
    | vs0 ag c f a cap => rfl
    | vs ag c n f blk o cap vals hk hcap h1 hc ha hv hr => rfl
  | agg cs vs hl hr => simp [AV.may] at hm
  | tup cs vs hl hr => simp [AV.may] at hm
  | fn f cs vs hl hr => rfl
  | ptr id off loc h => rfl
  | eptr id g c i off loc h hn => rfl
  | sl0 id g c off loc a h => rfl
  | sl id g c off len cp cap loc h hn hl hcap hc => rfl
theorem mays_get {cs : List AV} (h : mays cs = true) (i : Nat) (hi : i < cs.length) : (cs.getD i .bot).may = true := by
  induction cs generalizing i with
  | nil => simp at hi
  | cons a cs ih =>
    simp only [mays, Bool.and_eq_true] at h
    cases i with
    | zero => exact h.1
    | succ i => simpa using ih h.2 i (by simpa using hi)
theorem mays_one {E : Env} {ι : Io} {cs : List AV} {vs : Array Value} (h : mays cs = true) (hl : cs.length = vs.size) (hr : ∀ i, i < cs.length → Rel E ι (cs.getD i .bot) (vs.getD i undef)) : ∀ v ∈ vs.toList, v.oneCell' = true := by
  intro v hv
  obtain ⟨i, hi, rfl⟩ := List.mem_iff_getElem.1 hv
  have hi' : i < vs.size := by simpa using hi
  have := may_one (hr i (by omega)) (mays_get h i (by omega))
  simpa [hi'] using this
theorem run_storeAt {t : TypeId} {x : TI} (g : TyGood P t x) (w : World) (b o : Nat) (v : Value) (hs : v.cells.size = x.size) (hc : ∀ j, j < v.cells.size → (w.cell? ⟨b, o + j, none⟩).isSome = true) (hf : ∀ j, j < v.cells.size → w.frozen? ⟨b, o + j, none⟩ = false)
    (h1 : ∀ u ∈ v.cells.toList, u.oneCell' = true) : (Instr.storeAt t (.pointer (some ⟨b, o, none⟩)) v).run P w = .ok () (w.setCells b o v.cells.toList) := by
  have := run_storeCells_cells (P := P) b o v.cells.toList 0 w (fun j hj => by simpa using hc j (by simpa using hj)) (fun j hj => by simpa using hf j (by simpa using hj)) h1
  simp only [Nat.add_zero] at this
  simp [Instr.storeAt, Instr.sureAddr, storeVar, run_size g w, hs, this]
theorem storeK_sound {α : Type} {ty : TypeId → TI} (hty : TyOk P ty) (L : Lh) (t : TypeId) (v p : AV) (s : α) (k : Lh → α) :
    storeK ty L t v p s k = s ∨ ∃ L', storeK ty L t v p s k = k L' ∧ ∀ (E : Env) (ι : Io) (h : Hp) (w : World) (vp vv : Value), Den E ι (hp h L) w → Rel E ι p vp → Rel E ι v vv → ∃ w', (Instr.storeAt t vp vv).run P w = .ok () w' ∧ Den E ι (hp h L') w' := by
  unfold storeK
  split
  · exact .inl rfl
  · rename_i hk
    have g := hty t hk
    split
    · rename_i n off
      rw [getBK_eq]
      split
      · rename_i b hb
        split
        · rename_i cs
          split
          · rename_i hc
            simp only [Bool.and_eq_true, Nat.ble_eq, Nat.beq_eq] at hc
            obtain ⟨⟨h1, h2⟩, h3⟩ := hc
            refine .inr ⟨_, rfl, fun E ι h w vp vv d hpp hv => ?_⟩
            obtain ⟨loc, hl, rfl⟩ := rel_ptr hpp
            have hb' : hp h L (.l n) = some (.obj cs) := hb
            obtain ⟨loc', vs, k1, kn, k2, k3, k4⟩ := d.ok (.l n) (.obj cs) hb'
            rw [k1] at hl
            cases hl
            have hbot : v.isBot = false := by
              cases v <;> first | rfl | (simp [AV.cells, mays, AV.may] at h3)
            obtain ⟨c1, c2⟩ := hv.cells hbot
            have hsz : vv.cells.size = (ty t).size := by omega
            refine ⟨_, run_storeAt g w loc.blk off vv hsz (fun j hj => by rw [k2.cell (by omega)]; rfl) (fun j hj => k2.frozen (by omega)) (mays_one h3 c1 c2), ?_⟩
            rw [hp_cons]
            have pl : place ι (.l n) = some loc.blk := by simp [place, k1, kn]
            refine d.put hb' (fun k hk => heap_setCells_ne _ _ _ _ _ (fun e => hk (by rw [pl, e]))) (setCells_os _ _ _ _).1 (setCells_os _ _ _ _).2.1 (setCells_os _ _ _ _).2.2 ?_
            refine ⟨loc, putV vs off vv.cells.toList, k1, kn, k2.set _ _, by rw [putV_size, putCells_length, k3], fun i hi => ?_⟩
            rw [putCells_length] at hi
            rw [putCells_get _ _ _ _ (by omega), putV_get _ _ _ _ (by simp; omega)]
            simp only [Array.length_toList, c1]
            split
            · rename_i hh
              have := c2 (i - off) (by omega)
              simpa using this
            · exact k4 i hi
          · exact .inl rfl
        · exact .inl rfl
      · exact .inl rfl
    · exact .inl rfl
mutual
theorem Rel.idFree {E : Env} {ι : Io} : ∀ {a : AV} {v : Value}, a.idFree = true → Rel E ι a v → RelF E a v
  | .bot, v, _, _ => .bot v
  | .val x, v, _, h => by
    obtain ⟨rfl, h2⟩ := rel_val h
    exact .val _ h2
  | .agg cs, v, hf, h => by
    obtain ⟨vs, rfl, hl, hr⟩ := rel_agg h
    exact .agg cs vs hl (fun i hi => idFreeL_get cs i hi (by simpa only [AV.idFree] using hf) (hr i hi))
  | .tup cs, v, hf, h => by
    obtain ⟨vs, rfl, hl, hr⟩ := rel_tup h
    exact .tup cs vs hl (fun i hi => idFreeL_get cs i hi (by simpa only [AV.idFree] using hf) (hr i hi))
  | .fn g cs, v, hf, h => by
    obtain ⟨vs, rfl, hl, hr⟩ := rel_fn h
    exact .fn g cs vs hl (fun i hi => idFreeL_get cs i hi (by simpa only [AV.idFree] using hf) (hr i hi))
  | .ptr _ _, _, hf, _ => by simp [AV.idFree] at hf
  | .eptr _ _ _ _ _, _, hf, _ => by simp [AV.idFree] at hf
  | .vp _ _ _ _, v, _, h => by
    cases h with
    | F h => exact h
  | .sl _ _ _ _ _ _, _, hf, _ => by simp [AV.idFree] at hf
  | .vs _ _ _ _, v, _, h => by
    cases h with
    | F h => exact h
theorem idFreeL_get {E : Env} {ι : Io} : ∀ (cs : List AV) (i : Nat), i < cs.length → idFreeL cs = true → ∀ {v : Value}, Rel E ι (cs.getD i .bot) v → RelF E (cs.getD i .bot) v
  | [], i, hi, _, _, _ => by simp at hi
  | a :: cs, 0, _, hf, v, h => by
    simp only [idFreeL, Bool.and_eq_true] at hf
    exact Rel.idFree hf.1 h
  | a :: cs, i + 1, hi, hf, v, h => by
    simp only [idFreeL, Bool.and_eq_true] at hf
    have := idFreeL_get cs i (by simpa using hi) hf.2 (v := v) (by simpa using h)
    simpa using this
end
theorem idFree_cells {a : AV} (h : a.idFree = true) : idFreeL a.cells = true := by
  cases a <;> simp_all [AV.cells, AV.idFree, idFreeL]
theorem loadE_sound {α : Type} {ty : TypeId → TI} (hty : TyOk P ty) (L : Lh) (t : TypeId) (p : AV) (s : α) (k : Prop → AV → α) :
    loadE ty L t p s k = s ∨ ∃ c v, loadE ty L t p s k = k c v ∧ (c → ∀ (E : Env) (ι : Io) (h : Hp) (w : World) (vp : Value), Den E ι (hp h L) w → Rel E ι p vp → ∃ r, (Instr.loadAt t vp).run P w = .ok r w ∧ Rel E ι v r) := by
  unfold loadE
  split
  · rename_i id g c i off
    split
    · rename_i n
      split
      · exact .inl rfl
      · rename_i hk
        have gd := hty t hk
        rw [getBK_eq]
        split
        · rename_i b hb
          split
          · exact .inl rfl
          · rename_i ag g' c' m f
            split
            · exact .inl rfl
            · rename_i hgc
              rw [Nat.beq_eq] at hgc
              subst hgc
              have get : ∀ {E : Env} {ι : Io} {h : Hp} {w : World} {vp : Value}, i < m ∧ g' = g → Den E ι (hp h L) w → Rel E ι (.eptr (.l n) g c i off) vp → ∃ (loc : Loc) (vs : Array Value), vp = .pointer (some ⟨loc.blk, loc.base + i * c + off, none⟩) ∧ Cells w loc.blk vs ∧ loc.base + i * c + c ≤ vs.size ∧ (f i).cells.length = c ∧ (f i).isAgg = ag ∧
                  (∀ j, j < c → RelF E ((f i).cells.getD j .bot) (vs.getD (loc.base + i * c + j) undef)) := by
                intro E ι h w vp ⟨him, hg⟩ d hr
                subst hg
                obtain ⟨loc, hl, hn, rfl⟩ := rel_eptr hr
                obtain ⟨h0, loc', h1, h2, h3, h4⟩ := d.ok (.l n) _ hb
                rw [hl] at h2
                cases h2
                obtain ⟨vs, h5, h6, h7, h8⟩ := h4 hn
                have hle : i * c + c ≤ m * c := by
                  have : (i + 1) * c ≤ m * c := Nat.mul_le_mul_right _ him
                  rw [Nat.add_mul, Nat.one_mul] at this
                  exact this
                exact ⟨loc, vs, rfl, h5, by omega, (h0 i him).1, (h0 i him).2, fun j hj => (h8 i j him hj).2⟩
              split
              · rename_i hb2
                simp only [Bool.and_eq_true, Nat.beq_eq, beq_iff_eq] at hb2
                obtain ⟨⟨h1, h2⟩, h3⟩ := hb2
                subst h1
                refine .inr ⟨_, _, rfl, fun him E ι h w vp d hr => ?_⟩
                obtain ⟨loc, vs, rfl, k1, k2, k3, k4, k5⟩ := get him d hr
                refine ⟨_, run_loadAt gd w loc.blk (loc.base + i * c + 0) (fun j => vs.getD (loc.base + i * c + j) undef) (fun j hj => k1.cell (by omega)), ?_⟩
                have := ofCells_rel (E := E) (ι := ι) (ag := (ty t).agg) (cs := (f i).cells) (n := (ty t).size) (vals := fun j => vs.getD (loc.base + i * c + j) undef) (by omega) gd.one (fun j hj => .F (k5 j (by omega)))
                rw [← h3, ← k4, ofCells_cells (fun hx => by rw [k4, h3] at hx; have := gd.one hx; omega)] at this
                rw [← h3, ← k4]
                exact this
              · split
                · rename_i hle
                  rw [Nat.ble_eq] at hle
                  refine .inr ⟨_, _, rfl, fun him E ι h w vp d hr => ?_⟩
                  obtain ⟨loc, vs, rfl, k1, k2, k3, k4, k5⟩ := get him d hr
                  refine ⟨_, run_loadAt gd w loc.blk (loc.base + i * c + off) (fun j => vs.getD (loc.base + i * c + (off + j)) undef) (fun j hj => by rw [Nat.add_assoc]; exact k1.cell (by omega)), ?_⟩
                  exact ofCells_rel (by simp; omega) gd.one (fun j hj => by rw [drop_take_getD _ _ _ _ hj (by omega)]; exact .F (k5 _ (by omega)))
                · exact .inl rfl
        · exact .inl rfl
    · exact .inl rfl
  · exact .inl rfl
theorem storeE_sound {α : Type} {ty : TypeId → TI} (hty : TyOk P ty) (L : Lh) (t : TypeId) (v p : AV) (s : α) (k : Prop → Lh → α) :
    storeE ty L t v p s k = s ∨ ∃ c L', storeE ty L t v p s k = k c L' ∧ (c → ∀ (E : Env) (ι : Io) (h : Hp) (w : World) (vp vv : Value), Den E ι (hp h L) w → Rel E ι p vp → Rel E ι v vv → ∃ w', (Instr.storeAt t vp vv).run P w = .ok () w' ∧ Den E ι (hp h L') w') := by
  unfold storeE
  split
  · rename_i id g c i off
    split
    · rename_i n
      split
      · exact .inl rfl
      · rename_i hk
        have gd := hty t hk
        rw [getBK_eq]
        split
        · rename_i b hb
          split
          · exact .inl rfl
          · rename_i ag g' c' m f
            split
            · exact .inl rfl
            · rename_i hc
              simp only [Bool.and_eq_true, Nat.beq_eq, Nat.ble_eq, Bool.or_eq_true, Bool.not_eq_true'] at hc
              obtain ⟨⟨⟨⟨⟨rfl, h1⟩, h2⟩, h3⟩, h4⟩, h5⟩ := hc
              refine .inr ⟨_, _, rfl, fun ⟨him, hg⟩ E ι h w vp vv d hpp hv => ?_⟩
              subst hg
              obtain ⟨loc, hl, hn, rfl⟩ := rel_eptr hpp
              have hb' : hp h L (.l n) = some (.arr ag g' c m f) := hb
              obtain ⟨k0, loc', k1, k2, k3, k4⟩ := d.ok (.l n) _ hb'
              rw [hl] at k2
              cases k2
              obtain ⟨vs, k5, k6, k7, k8⟩ := k4 hn
              have hle : i * c + c ≤ m * c := by
                have : (i + 1) * c ≤ m * c := Nat.mul_le_mul_right _ him
                rw [Nat.add_mul, Nat.one_mul] at this
                exact this
              have hbot : v.isBot = false := by
                cases v <;> first | rfl | (simp [AV.cells, mays, AV.may] at h3)
              obtain ⟨c1, c2⟩ := hv.cells hbot
              have hsz : vv.cells.size = (ty t).size := by omega
              refine ⟨_, run_storeAt gd w loc.blk (loc.base + i * c + off) vv hsz (fun j hj => by rw [k5.cell (by omega)]; rfl) (fun j hj => k5.frozen (by omega)) (mays_one h3 c1 c2), ?_⟩
              rw [hp_cons]
              have pl : place ι (.l n) = some loc.blk := by
                unfold place
                rw [List.getLast?_eq_getElem?, k1]
                simp [hl, hn]
              refine d.put hb' (fun q hq => heap_setCells_ne _ _ _ _ _ (fun e => hq (by rw [pl, e]))) (setCells_os _ _ _ _).1 (setCells_os _ _ _ _).2.1 (setCells_os _ _ _ _).2.2 ?_
              have shape : (putE ag (f i) off v).cells.length = c ∧ (putE ag (f i) off v).isAgg = ag := by
                cases ag with
                | true => exact ⟨by show (putCells (f i).cells off v.cells).length = c; rw [putCells_length]; exact (k0 i him).1, rfl⟩
                | false =>
                  simp only [Bool.false_eq_true, false_or] at h5
                  refine ⟨?_, h5.2⟩
                  simp only [putE]
                  have := h5.1
                  cases v <;> first | (simp [AV.cells]; omega) | (simp [AV.isAgg] at h5)
              refine ⟨fun j hj => ?_, loc, k1, hl, k3, fun _ => ⟨putV vs (loc.base + i * c + off) vv.cells.toList, k5.set _ _, by rw [putV_size]; exact k6, k7, fun j q hj hq => ?_⟩⟩
              · cases hji : Nat.beq j i with
                | true => simp only [hji, cond_true]; exact shape
                | false => simp only [hji, cond_false]; exact k0 j hj
              · rw [putV_get _ _ _ _ (by simp; omega)]
                simp only [Array.length_toList]
                cases hji : Nat.beq j i with
                | true =>
                  have := Nat.eq_of_beq_eq_true hji
                  subst this
                  simp only [cond_true]
                  have relv : ∀ r, r < v.cells.length → (vv.cells.getD r undef).oneCell' = true ∧ RelF E (v.cells.getD r .bot) (vv.cells.getD r undef) := fun r hr => ⟨may_one (c2 r hr) (mays_get h3 r hr), idFreeL_get _ _ hr (idFree_cells h4) (c2 r hr)⟩
                  cases ag with
                  | true =>
                    show _ ∧ RelF E ((putCells (f j).cells off v.cells).getD q .bot) _
                    rw [putCells_get _ _ _ _ (by rw [(k0 j him).1]; omega)]
                    by_cases hin : off ≤ q ∧ q < off + v.cells.length
                    · rw [if_pos hin, if_pos (by omega)]
                      have := relv (q - off) (by omega)
                      rw [show loc.base + j * c + q - (loc.base + j * c + off) = q - off by omega]
                      simpa using this
                    · rw [if_neg hin, if_neg (by omega)]
                      exact k8 j q him hq
                  | false =>
                    simp only [Bool.false_eq_true, false_or] at h5
                    obtain ⟨h51, h52⟩ := h5
                    have hv1 : v.cells.length = 1 := by cases v <;> first | rfl | (simp [AV.isAgg] at h52)
                    have ho : off = 0 := by omega
                    subst ho
                    have hq0 : q = 0 := by omega
                    subst hq0
                    simp only [putE]
                    rw [if_pos (by omega)]
                    have := relv 0 (by omega)
                    simpa using this
                | false =>
                  simp only [cond_false]
                  have hne : j ≠ i := fun e => by subst e; simp at hji
                  rw [if_neg ?_]
                  · exact k8 j q hj hq
                  · rintro ⟨a1, a2⟩
                    rcases Nat.lt_or_gt_of_ne hne with h | h
                    · have : (j + 1) * c ≤ i * c := Nat.mul_le_mul_right _ h
                      rw [Nat.add_mul, Nat.one_mul] at this
                      omega
                    · have : (i + 1) * c ≤ j * c := Nat.mul_le_mul_right _ h
                      rw [Nat.add_mul, Nat.one_mul] at this
                      omega
        · exact .inl rfl
    · exact .inl rfl
  · exact .inl rfl
end Go.AM
set_option linter.unusedVariables false
set_option linter.unusedSimpArgs false
namespace Go.AM
variable {P : Program}
theorem desc_slice {t e : TypeId} {x : TI} (g : TyGood P t x) (h : x.td = .slice e) : P.underlying t = some (.slice e) := by
  obtain ⟨d, h1, _, h2⟩ := g.desc
  rw [h] at h2
  cases d <;> simp_all [TDok]
theorem desc_array {t e : TypeId} {n : Nat} {x : TI} (g : TyGood P t x) (h : x.td = .array n e) : P.underlying t = some (.array n e) := by
  obtain ⟨d, h1, _, h2⟩ := g.desc
  rw [h] at h2
  cases d <;> simp_all [TDok]
theorem desc_string {t : TypeId} {x : TI} (g : TyGood P t x) (h : x.td = .string) : P.underlying t = some .string := by
  obtain ⟨d, h1, _, h2⟩ := g.desc
  rw [h] at h2
  cases d <;> simp_all [TDok]
theorem desc_int {t : TypeId} {k : IntKind} {x : TI} (g : TyGood P t x) (h : x.td = .int k) : P.underlying t = some (.int k) := by
  obtain ⟨d, h1, _, h2⟩ := g.desc
  rw [h] at h2
  cases d <;> simp_all [TDok]
theorem desc_struct {t : TypeId} {fs : List (Nat × TypeId)} {x : TI} (g : TyGood P t x) (h : x.td = .struct fs) : ∃ gs : Array Field, P.underlying t = some (.struct gs) ∧ fs = gs.toList.map fun f => (f.offset, f.type) := by
  obtain ⟨d, h1, _, h2⟩ := g.desc
  rw [h] at h2
  cases d <;> simp_all [TDok]
theorem field_at {gs : Array Field} {fs : List (Nat × TypeId)} {j o : Nat} {u : TypeId} (h : fs = gs.toList.map fun f => (f.offset, f.type)) (hj : fs[j]? = some (o, u)) : ∃ f, gs[j]? = some f ∧ f.offset = o ∧ f.type = u := by
  subst h
  rw [List.getElem?_map] at hj
  cases hg : gs[j]? with
  | none => simp [hg] at hj
  | some f => simp [hg] at hj; exact ⟨f, rfl, hj.1, hj.2⟩
theorem add_addr (b o n : Nat) : (⟨b, o, none⟩ : Addr).add n = ⟨b, o + n, none⟩ := Addr.add_mid b o n
theorem indexK_sound {α : Type} {ty : TypeId → TI} (hty : TyOk P ty) (t : TypeId) (x i : AV) (s : α) (k : Prop → AV → α) :
    indexK ty t x i s k = s ∨ ∃ c v, indexK ty t x i s k = k c v ∧ (c → ∀ (E : Env) (ι : Io) (w : World) (vx vi : Value), Rel E ι x vx → Rel E ι i vi → ∃ r, (Instr.indexAt t vx vi).run P w = .ok r w ∧ Rel E ι v r) := by
  unfold indexK
  split
  · split
    · rename_i ik iv
      split
      · rename_i ag c n f
        split
        · rename_i e he
          split
          · rename_i hb
            simp only [Bool.and_eq_true, Nat.beq_eq] at hb
            obtain ⟨⟨h1, h2⟩, h3⟩ := hb
            refine .inr ⟨_, _, rfl, fun hc E ι w vx vi hx hi => ?_⟩
            obtain ⟨rfl, _⟩ := rel_val hi
            obtain ⟨a, cap, rfl, hh⟩ := rel_vs hx
            rcases hh with rfl | ⟨blk, o, vals, rfl, hk, _, _, hcs, ha, hv, hr⟩
            · omega
            · have hlt : iv.toNat < n := by omega
              refine ⟨.pointer (some ⟨blk, o + iv.toNat * c, none⟩), ?_, ?_⟩
              · simp [Instr.indexAt, asIntOf, run_underlying (desc_slice (hty t h2) he), run_size (hty e h3), h1, hc, add_addr]
              · exact .F (.vp ag c (f iv.toNat) 0 blk _ (fun j => vals iv.toNat j) hk (hcs _ hlt) (ha _ hlt) (fun j hj => hv _ _ hlt hj) (fun j hj => hr _ _ hlt hj))
          · exact .inl rfl
        · exact .inl rfl
      · rename_i id g c off n cp
        split
        · rename_i e he
          split
          · rename_i hb
            simp only [Bool.and_eq_true, Nat.beq_eq] at hb
            obtain ⟨⟨h1, h2⟩, h3⟩ := hb
            refine .inr ⟨_, _, rfl, fun hc E ι w vx vi hx hi => ?_⟩
            obtain ⟨rfl, _⟩ := rel_val hi
            obtain ⟨loc, a, cap, hl, rfl, hh⟩ := rel_sl hx
            rcases hh with ⟨rfl, _⟩ | ⟨hn, _, _, _, rfl⟩
            · omega
            · refine ⟨.pointer (some ⟨loc.blk, loc.base + (off + iv.toNat) * c + 0, none⟩), ?_, .eptr id g c (off + iv.toNat) 0 loc hl hn⟩
              simp [Instr.indexAt, asIntOf, run_underlying (desc_slice (hty t h2) he), run_size (hty e h3), h1, hc, add_addr, Nat.add_mul, Nat.add_assoc]
          · exact .inl rfl
        · exact .inl rfl
      · rename_i id off
        split
        · rename_i n e he
          split
          · rename_i hb
            simp only [Bool.and_eq_true, Nat.ble_eq] at hb
            obtain ⟨⟨h2, h3⟩, h4⟩ := hb
            refine .inr ⟨_, _, rfl, fun hc E ι w vx vi hx hi => ?_⟩
            obtain ⟨rfl, _⟩ := rel_val hi
            obtain ⟨loc, hl, rfl⟩ := rel_ptr hx
            refine ⟨.pointer (some ⟨loc.blk, off + iv.toNat * (ty e).size, none⟩), ?_, .ptr id _ loc hl⟩
            simp [Instr.indexAt, Instr.sureAddr, asIntOf, run_underlying (desc_array (hty t h2) he), run_size (hty e h3), hc, add_addr]
          · exact .inl rfl
        · exact .inl rfl
      · rename_i id g c j off
        split
        · rename_i n e he
          split
          · rename_i hb
            simp only [Bool.and_eq_true, Nat.ble_eq, Nat.beq_eq] at hb
            obtain ⟨⟨⟨⟨h2, h3⟩, h4⟩, h5⟩, rfl⟩ := hb
            refine .inr ⟨_, _, rfl, fun hc E ι w vx vi hx hi => ?_⟩
            obtain ⟨rfl, _⟩ := rel_val hi
            obtain ⟨loc, hl, hn, rfl⟩ := rel_eptr hx
            refine ⟨.pointer (some ⟨loc.blk, loc.base + (j + iv.toNat) * c + 0, none⟩), ?_, .eptr id g c _ 0 loc hl hn⟩
            simp [Instr.indexAt, Instr.sureAddr, asIntOf, run_underlying (desc_array (hty t h2) he), run_size (hty e h3), h5, hc, add_addr, Nat.add_mul, Nat.add_assoc]
          · exact .inl rfl
        · exact .inl rfl
      · exact .inl rfl
    · exact .inl rfl
  · exact .inl rfl
theorem run_fieldAt {t : TypeId} {fs : List (Nat × TypeId)} {x : TI} (g : TyGood P t x) (h : x.td = .struct fs) {j o : Nat} {u : TypeId} (hj : fs[j]? = some (o, u)) {y : TI} (gu : TyGood P u y) (hs : 1 ≤ y.size) (w : World) (b p : Nat) :
    (Instr.fieldAt t (.pointer (some ⟨b, p, none⟩)) j).run P w = .ok (.pointer (some ⟨b, p + o, none⟩)) w := by
  obtain ⟨gs, h1, h2⟩ := desc_struct g h
  obtain ⟨f, h3, h4, h5⟩ := field_at h2 hj
  subst h4 h5
  have hne : ¬ (y.size = 0) := by omega
  simp [Instr.fieldAt, Instr.sureAddr, run_underlying h1, h3, fieldPlace, run_size gu, hne, add_addr]
theorem fieldK_sound {α : Type} {ty : TypeId → TI} (hty : TyOk P ty) (t : TypeId) (x : AV) (j : Nat) (s : α) (k : AV → α) :
    fieldK ty t x j s k = s ∨ ∃ v, fieldK ty t x j s k = k v ∧ ∀ (E : Env) (ι : Io) (w : World) (vx : Value), Rel E ι x vx → ∃ r, (Instr.fieldAt t vx j).run P w = .ok r w ∧ Rel E ι v r := by
  unfold fieldK
  split
  · rename_i hk
    split
    · rename_i fs hf
      split
      · rename_i o u hj
        split
        · rename_i hb
          simp only [Bool.and_eq_true, Nat.ble_eq] at hb
          have run := fun w b p => run_fieldAt (hty t hk) hf hj (hty u hb.1) hb.2 w b p
          split
          · refine .inr ⟨_, rfl, fun E ι w vx hx => ?_⟩
            obtain ⟨loc, hl, rfl⟩ := rel_ptr hx
            exact ⟨_, run _ _ _, .ptr _ _ loc hl⟩
          · refine .inr ⟨_, rfl, fun E ι w vx hx => ?_⟩
            obtain ⟨loc, hl, hn, rfl⟩ := rel_eptr hx
            refine ⟨_, run _ _ _, ?_⟩
            rw [Nat.add_assoc]
            exact .eptr _ _ _ _ _ loc hl hn
          · refine .inr ⟨_, rfl, fun E ι w vx hx => ?_⟩
            obtain ⟨blk, p, vals, rfl, h1, h2, h3, h4, h5⟩ := rel_vp hx
            refine ⟨_, run _ _ _, ?_⟩
            rw [Nat.add_assoc]
            exact .F (.vp _ _ _ _ blk p vals h1 h2 h3 h4 h5)
          · exact .inl rfl
        · exact .inl rfl
      · exact .inl rfl
    · exact .inl rfl
  · exact .inl rfl
theorem run_part {u : TypeId} {y : TI} (gu : TyGood P u y) (vs : Array Value) (o : Nat) (h : o + y.size ≤ vs.size) (w : World) :
    (part u vs o).run P w = .ok (if y.agg then .agg ((List.range y.size).map fun i => vs.getD (o + i) undef).toArray else ((List.range y.size).map fun i => vs.getD (o + i) undef).toArray.getD 0 undef) w := by
  unfold part
  rw [Sem.run_bind, run_agg gu w]
  cases ha : y.agg with
  | true =>
    simp only [Result.andThen_ok, if_true, Sem.run_bind, run_size gu w, Sem.run_pure]
    congr 2
    apply Array.ext
    · simp; omega
    · intro i h1 h2
      simp at h1 h2
      simp [show o + i < vs.size by omega]
  | false =>
    have h1 := gu.one ha
    have h2 : vs[o]? = some vs[o] := by simp [show o < vs.size by omega]
    simp [h2, h1, show o < vs.size by omega]
theorem fieldOfK_sound {α : Type} {ty : TypeId → TI} (hty : TyOk P ty) (t : TypeId) (x : AV) (j : Nat) (s : α) (k : AV → α) :
    fieldOfK ty t x j s k = s ∨ ∃ v, fieldOfK ty t x j s k = k v ∧ ∀ (E : Env) (ι : Io) (w : World) (vx : Value), Rel E ι x vx → ∃ r, (Instr.field t vx j).run P w = .ok r w ∧ Rel E ι v r := by
  unfold fieldOfK
  split
  · rename_i hk
    split
    · rename_i fs hf
      split
      · rename_i o u hj
        split
        · rename_i cs
          split
          · rename_i hb
            simp only [Bool.and_eq_true, Nat.ble_eq] at hb
            obtain ⟨⟨h1, h2⟩, h3⟩ := hb
            refine .inr ⟨_, rfl, fun E ι w vx hx => ?_⟩
            obtain ⟨vs, rfl, hl, hr⟩ := rel_agg hx
            obtain ⟨gs, g1, g2⟩ := desc_struct (hty t hk) hf
            obtain ⟨f, g3, g4, g5⟩ := field_at g2 hj
            subst g4 g5
            refine ⟨_, ?_, ofCells_rel (vals := fun i => vs.getD (f.offset + i) undef) (by simp; omega) (hty _ h1).one (fun i hi => by rw [drop_take_getD _ _ _ _ hi h2]; exact hr _ (by omega))⟩
            simp only [Instr.field, Sem.run_bind, run_underlying g1, Result.andThen_ok, g3, asAgg, Sem.run_pure]
            exact run_part (hty _ h1) vs f.offset (by omega) w
          · exact .inl rfl
        · exact .inl rfl
      · exact .inl rfl
    · exact .inl rfl
  · exact .inl rfl
theorem lenK_sound {α : Type} {ty : TypeId → TI} (hty : TyOk P ty) (t : TypeId) (x : AV) (s : α) (k : AV → α) :
    lenK ty t x s k = s ∨ ∃ v, lenK ty t x s k = k v ∧ ∀ (E : Env) (ι : Io) (w : World) (vx : Value) (ts : Array TypeId) (r : Array Value) (u : TypeId), ts[0]? = some t → r[0]? = some vx → Rel E ι x vx → ∃ q, (Builtin.len_ ts u r).run P w = .ok q w ∧ Rel E ι v q := by
  unfold lenK
  split
  · exact .inl rfl
  · rename_i hk
    split
    · rename_i e he
      have hu := desc_slice (hty t hk) he
      split
      · refine .inr ⟨_, rfl, fun E ι w vx ts r u ht hr hx => ?_⟩
        obtain ⟨a, cap, rfl, _⟩ := rel_vs hx
        exact ⟨_, by simp [Builtin.len_, ht, hr, run_underlying hu, goInt], .F (.val _ rfl)⟩
      · refine .inr ⟨_, rfl, fun E ι w vx ts r u ht hr hx => ?_⟩
        obtain ⟨loc, a, cap, _, rfl, _⟩ := rel_sl hx
        exact ⟨_, by simp [Builtin.len_, ht, hr, run_underlying hu, goInt], .F (.val _ rfl)⟩
      · split
        · split
          · refine .inr ⟨_, rfl, fun E ι w vx ts r u ht hr hx => ?_⟩
            obtain ⟨rfl, _⟩ := rel_val hx
            exact ⟨_, by simp [Builtin.len_, ht, hr, run_underlying hu, goInt], .F (.val _ rfl)⟩
          · exact .inl rfl
        · exact .inl rfl
      · exact .inl rfl
    · rename_i he
      have hu := desc_string (hty t hk) he
      split
      · split
        · refine .inr ⟨_, rfl, fun E ι w vx ts r u ht hr hx => ?_⟩
          obtain ⟨rfl, _⟩ := rel_val hx
          exact ⟨_, by simp [Builtin.len_, ht, hr, run_underlying hu, goInt], .F (.val _ rfl)⟩
        · exact .inl rfl
      · exact .inl rfl
    · exact .inl rfl
theorem minK_sound {α : Type} (mx : Bool) (vs : List AV) (s : α) (k : AV → α) :
    minK mx vs s k = s ∨ ∃ v, minK mx vs s k = k v ∧ ∀ (E : Env) (ι : Io) (w : World) (r : Array Value) (ts : Array TypeId) (u : TypeId), vs.length = r.size → (∀ i, i < vs.length → Rel E ι (vs.getD i .bot) (r.getD i undef)) →
      ∃ q, (if mx then Builtin.max_ ts u r else Builtin.min_ ts u r).run P w = .ok q w ∧ Rel E ι v q := by
  unfold minK
  split
  · rename_i a b
    split
    · split
      · split
        · rename_i i x
          split
          · rename_i j y
            split
            · rename_i hk; have := sameKind_eq hk; subst this
              have two : ∀ {E : Env} {ι : Io} {r : Array Value}, ([AV.val (.int i x), .val (.int i y)] : List AV).length = r.size → (∀ n, n < 2 → Rel E ι (([AV.val (.int i x), .val (.int i y)] : List AV).getD n .bot) (r.getD n undef)) → r = #[.int i x, .int i y] := by
                intro E ι r hl hr
                have h0 := (rel_val (hr 0 (by omega))).1
                have h1 := (rel_val (hr 1 (by omega))).1
                apply Array.ext
                · simpa using hl.symm
                · intro n h1' h2'
                  have hn : n < 2 := by simpa using h2'
                  match n, hn with
                  | 0, _ => simp at hl; simp [show 0 < r.size by omega] at h0; simpa using h0
                  | 1, _ => simp at hl; simp [show 1 < r.size by omega] at h1; simpa using h1
              split
              · refine .inr ⟨_, rfl, fun E ι w r ts u hl hr => ?_⟩
                rw [two hl hr]
                exact ⟨_, by simp [Builtin.min_, Builtin.min2], .F (.val _ rfl)⟩
              · refine .inr ⟨_, rfl, fun E ι w r ts u hl hr => ?_⟩
                rw [two hl hr]
                exact ⟨_, by simp [Builtin.max_, Builtin.max2], .F (.val _ rfl)⟩
            · exact .inl rfl
          · exact .inl rfl
        · exact .inl rfl
      · exact .inl rfl
    · exact .inl rfl
  · exact .inl rfl
theorem boundsK_sound {α : Type} (n cp : Nat) (hncp : n ≤ cp) (lo hi : Option AV) (s : α) (k : Prop → Nat → Nat → α) :
    sliceK.boundsK n cp lo hi s k = s ∨ ∃ c l h, sliceK.boundsK n cp lo hi s k = k c l h ∧ (c → l ≤ h ∧ h ≤ cp ∧ ∀ (cap : Nat) (isSlice : Bool) (E : Env) (ι : Io) (w : World) (vlo vhi : Option Value), cp ≤ cap → (∀ a, lo = some a → ∃ v, vlo = some v ∧ Rel E ι a v) → (lo = none → vlo = none) → (∀ a, hi = some a → ∃ v, vhi = some v ∧ Rel E ι a v) → (hi = none → vhi = none) →
      (Instr.sliceBounds isSlice n cap vlo vhi none).run P w = .ok (l, h, cap) w) := by
  unfold sliceK.boundsK
  split
  · split
    · refine .inr ⟨_, _, _, rfl, fun _ => ⟨Nat.zero_le _, hncp, fun cap isSlice E ι w vlo vhi hcap h1 h2 h3 h4 => ?_⟩⟩
      rw [h2 rfl, h4 rfl]
      simp [Instr.sliceBounds]
    · split
      · split
        · rename_i kk hv
          refine .inr ⟨_, _, _, rfl, fun hc => ⟨Nat.zero_le _, by omega, fun cap isSlice E ι w vlo vhi hcap h1 h2 h3 h4 => ?_⟩⟩
          obtain ⟨v, e, hr⟩ := h3 _ rfl
          rw [h2 rfl, e, (rel_val hr).1]
          simp [Instr.sliceBounds, Instr.sliceBound, asIntOf, show (0:Int) ≤ hv ∧ hv ≤ (cap:Int) by omega]
        · exact .inl rfl
      · exact .inl rfl
  · split
    · split
      · rename_i kk lv
        split
        · refine .inr ⟨_, _, _, rfl, fun hc => ⟨by omega, hncp, fun cap isSlice E ι w vlo vhi hcap h1 h2 h3 h4 => ?_⟩⟩
          obtain ⟨v, e, hr⟩ := h1 _ rfl
          rw [h4 rfl, e, (rel_val hr).1]
          simp [Instr.sliceBounds, Instr.sliceBound, asIntOf, hc]
        · split
          · split
            · rename_i kk' hv
              refine .inr ⟨_, _, _, rfl, fun hc => ⟨by omega, by omega, fun cap isSlice E ι w vlo vhi hcap h1 h2 h3 h4 => ?_⟩⟩
              obtain ⟨v, e, hr⟩ := h1 _ rfl
              obtain ⟨v', e', hr'⟩ := h3 _ rfl
              rw [e, e', (rel_val hr).1, (rel_val hr').1]
              have c1 : (0:Int) ≤ hv ∧ hv ≤ (cap:Int) := by omega
              have c2 : (0:Int) ≤ lv ∧ lv ≤ ((hv.toNat : Nat):Int) := by omega
              simp only [Instr.sliceBounds, Instr.sliceBound, asIntOf, Sem.run_bind, Sem.run_pure, Result.andThen_ok, if_pos c1, if_pos c2]
            · exact .inl rfl
          · exact .inl rfl
      · exact .inl rfl
    · exact .inl rfl
theorem boundsK_sound' {α : Type} (n cp : Nat) (lo hi : Option AV) (s : α) (k : Prop → Nat → Nat → α) :
    sliceK.boundsK n cp lo hi s k = s ∨ ∃ c l h, sliceK.boundsK n cp lo hi s k = k c l h ∧ (n ≤ cp → c → l ≤ h ∧ h ≤ cp ∧ ∀ (cap : Nat) (isSlice : Bool) (E : Env) (ι : Io) (w : World) (vlo vhi : Option Value), cp ≤ cap → (∀ a, lo = some a → ∃ v, vlo = some v ∧ Rel E ι a v) → (lo = none → vlo = none) → (∀ a, hi = some a → ∃ v, vhi = some v ∧ Rel E ι a v) → (hi = none → vhi = none) →
      (Instr.sliceBounds isSlice n cap vlo vhi none).run P w = .ok (l, h, cap) w) := by
  by_cases hncp : n ≤ cp
  · rcases boundsK_sound (P := P) n cp hncp lo hi s k with h | ⟨c, l, hh, h1, h2⟩
    · exact .inl h
    · exact .inr ⟨c, l, hh, h1, fun _ => h2⟩
  · by_cases h : sliceK.boundsK n cp lo hi s k = s
    · exact .inl h
    · unfold sliceK.boundsK at h ⊢
      repeat' split at h
      all_goals first
        | exact absurd rfl h
        | exact .inr ⟨_, _, _, rfl, fun hn => absurd hn hncp⟩
theorem run_slice_slice {t e : TypeId} {x y : TI} (g : TyGood P t x) (h : x.td = .slice e) (ge : TyGood P e y) {a : Option Addr} {len cap l hh : Nat} {vlo vhi : Option Value} {w : World} (hb : (Instr.sliceBounds true len cap vlo vhi none).run P w = .ok (l, hh, cap) w) :
    (Instr.sliceAt t (.slice a len cap) vlo vhi none).run P w = .ok (.slice (if cap = l then a else a.map (·.add (l * y.size))) (hh - l) (cap - l)) w := by
  simp [Instr.sliceAt, Instr.slice, run_underlying (desc_slice g h), hb, run_size ge]
theorem sliceK_sound {α : Type} {ty : TypeId → TI} (hty : TyOk P ty) (t : TypeId) (x : AV) (lo hi : Option AV) (s : α) (k : Prop → AV → α) :
    sliceK ty t x lo hi s k = s ∨ ∃ c v, sliceK ty t x lo hi s k = k c v ∧ (c → ∀ (E : Env) (ι : Io) (w : World) (vx : Value) (vlo vhi : Option Value), Rel E ι x vx → (∀ a, lo = some a → ∃ v, vlo = some v ∧ Rel E ι a v) → (lo = none → vlo = none) → (∀ a, hi = some a → ∃ v, vhi = some v ∧ Rel E ι a v) → (hi = none → vhi = none) →
      ∃ r, (Instr.sliceAt t vx vlo vhi none).run P w = .ok r w ∧ Rel E ι v r) := by
  unfold sliceK
  split
  · exact .inl rfl
  · rename_i hk
    split
    · rename_i e he
      split
      · exact .inl rfl
      · rename_i hke
        split
        · rename_i ag c n f
          split
          · rename_i hb
            rw [Nat.beq_eq] at hb
            rcases boundsK_sound (P := P) n n (Nat.le_refl _) lo hi s (fun p l h => k p (.vs ag c (h - l) (fun i => f (i + l)))) with e1 | ⟨p, l, hh, e1, hrun⟩
            · exact .inl e1
            · refine .inr ⟨_, _, e1, fun hp E ι w vx vlo vhi hx h1 h2 h3 h4 => ?_⟩
              obtain ⟨q1, q2, q3⟩ := hrun hp
              obtain ⟨a, cap, rfl, hr⟩ := rel_vs hx
              have hcap : n ≤ cap := by
                rcases hr with rfl | ⟨_, _, _, _, _, hcap, _⟩
                · exact Nat.zero_le _
                · exact hcap
              refine ⟨_, run_slice_slice (hty t hk) he (hty e hke) (q3 cap true E ι w vlo vhi hcap h1 h2 h3 h4), ?_⟩
              by_cases h0 : hh - l = 0
              · rw [h0]; exact .F (.vs0 _ _ _ _ _)
              · rcases hr with rfl | ⟨blk, o, vals, rfl, k1, _, ko, k2, k3, k4, k5⟩
                · omega
                · rw [if_neg (by omega), Option.map_some, add_addr, hb]
                  refine .F (.vs ag c _ _ blk (o + l * c) (cap - l) (fun i j => vals (i + l) j) k1 (by omega) (fun i j hi hj => ko _ _ (by omega) hj) (fun i hi => k2 _ (by omega)) (fun i hi => k3 _ (by omega)) (fun i j hi hj => ?_) (fun i j hi hj => k5 _ _ (by omega) hj))
                  have := k4 (i + l) j (by omega) hj
                  rw [Nat.add_mul] at this
                  rw [show o + l * c + i * c + j = o + (i * c + l * c) + j by omega]
                  exact this
          · exact .inl rfl
        · rename_i id g c off n cp
          split
          · rename_i hb
            rw [Nat.beq_eq] at hb
            rcases boundsK_sound' (P := P) n cp lo hi s (fun p l h => k p (.sl id g c (off + l) (h - l) (cp - l))) with e1 | ⟨p, l, hh, e1, hrun⟩
            · exact .inl e1
            · refine .inr ⟨_, _, e1, fun hp E ι w vx vlo vhi hx h1 h2 h3 h4 => ?_⟩
              obtain ⟨loc, a, cap, hl, rfl, hr⟩ := rel_sl hx
              have hncp : n ≤ cp := by
                rcases hr with ⟨rfl, _⟩ | ⟨_, hcap, _⟩
                · exact Nat.zero_le _
                · exact hcap
              have hcap : cp ≤ cap := by
                rcases hr with ⟨_, rfl, _⟩ | ⟨_, _, hcap, _⟩
                · exact Nat.zero_le _
                · exact hcap
              obtain ⟨q1, q2, q3⟩ := hrun hncp hp
              refine ⟨_, run_slice_slice (hty t hk) he (hty e hke) (q3 cap true E ι w vlo vhi hcap h1 h2 h3 h4), ?_⟩
              by_cases h0 : cap = l
              · rw [if_pos h0, show hh - l = 0 by omega, show cap - l = 0 by omega, show cp - l = 0 by omega]
                exact .sl0 _ _ _ _ loc a hl
              · rcases hr with ⟨rfl, rfl, rfl⟩ | ⟨k1, k2, k2', k3, rfl⟩
                · omega
                · rw [if_neg h0, Option.map_some, add_addr, hb, show loc.base + off * c + l * c = loc.base + (off + l) * c by rw [Nat.add_mul]; omega]
                  exact .sl id g c (off + l) (hh - l) (cp - l) (cap - l) loc hl k1 (by omega) (by omega) (by rw [show off + l + (cap - l) = off + cap by omega]; exact k3)
          · exact .inl rfl
        · split
          · split
            · split
              · split
                · rcases boundsK_sound (P := P) 0 0 (Nat.le_refl _) lo hi s (fun p _ _ => k p (.val (.slice none 0 0))) with e1 | ⟨p, l, hh, e1, hrun⟩
                  · exact .inl e1
                  · refine .inr ⟨_, _, e1, fun hp E ι w vx vlo vhi hx h1 h2 h3 h4 => ?_⟩
                    obtain ⟨q1, q2, q3⟩ := hrun hp
                    obtain ⟨rfl, _⟩ := rel_val hx
                    refine ⟨_, run_slice_slice (hty t hk) he (hty e hke) (q3 0 true E ι w vlo vhi (Nat.le_refl _) h1 h2 h3 h4), ?_⟩
                    obtain rfl : l = 0 := by omega
                    obtain rfl : hh = 0 := by omega
                    exact .F (.val _ rfl)
                · exact .inl rfl
              · exact .inl rfl
            · exact .inl rfl
          · exact .inl rfl
        · exact .inl rfl
    · rename_i he
      split
      · split
        · rename_i b
          rcases boundsK_sound (P := P) b.size b.size (Nat.le_refl _) lo hi s (fun p l h => k p (.val (.string (b.extract l h)))) with e1 | ⟨p, l, hh, e1, hrun⟩
          · exact .inl e1
          · refine .inr ⟨_, _, e1, fun hp E ι w vx vlo vhi hx h1 h2 h3 h4 => ?_⟩
            obtain ⟨q1, q2, q3⟩ := hrun hp
            obtain ⟨rfl, _⟩ := rel_val hx
            refine ⟨.string (b.extract l hh), ?_, .F (.val _ rfl)⟩
            have := q3 b.size false E ι w vlo vhi (Nat.le_refl _) h1 h2 h3 h4
            simp [Instr.sliceAt, Instr.slice, run_underlying (desc_string (hty t hk) he), this]
        · exact .inl rfl
      · exact .inl rfl
    · exact .inl rfl
end Go.AM
set_option linter.unusedVariables false
set_option linter.unusedSimpArgs false
namespace Go.AM
variable {P : Program}
theorem partsK_eq {α : Type} (T : Tm) (ps : List (Nat × Operand)) (s : α) (k : List (Nat × AV) → α) :
    partsK T ps s k = s ∨ ∃ vs, partsK T ps s k = k vs ∧ ∀ (E : Env) (ι : Io) (a : Act), TOk E ι T a.tmps → vs.length = ps.length ∧ ∀ i, i < vs.length → ((vs.getD i (0, .bot)).1 = (((ps.map fun p => (p.1, a.eval p.2))).getD i (0, undef)).1 ∧ Rel E ι (vs.getD i (0, .bot)).2 ((ps.map fun p => (p.1, a.eval p.2)).getD i (0, undef)).2) := by
  induction ps generalizing k with
  | nil => exact .inr ⟨[], rfl, fun _ _ _ _ => ⟨rfl, fun i hi => by simp at hi⟩⟩
  | cons p ps ih =>
    obtain ⟨j, x⟩ := p
    simp only [partsK, evK_eq]
    split
    · rename_i v hv
      rcases ih (fun vs => k ((j, v) :: vs)) with h | ⟨vs, h, hr⟩
      · exact .inl h
      · refine .inr ⟨_, h, fun E ι a hT => ?_⟩
        obtain ⟨h1, h2⟩ := hr E ι a hT
        refine ⟨by simp [h1], fun i hi => ?_⟩
        cases i with
        | zero => exact ⟨rfl, ev_rel hT hv⟩
        | succ i => simpa using h2 i (by simpa using hi)
    · exact .inl rfl
theorem zipIdx_put (off : Nat) : ∀ (l : List Value) (cs : Array Value) (i : Nat), (l.zipIdx i).foldl (fun cs (c, j) => cs.setIfInBounds (off + j) c) cs = putV cs (off + i) l := by
  intro l
  induction l with
  | nil => intro cs i; rfl
  | cons v l ih => intro cs i; rw [List.zipIdx_cons, List.foldl_cons, ih, putV]; rfl
theorem zero_rel {E : Env} {ι : Io} {x : TI} {t : TypeId} (g : TyGood P t x) {z : Value} (hz : z.cells.toList = x.zero) : (aggsV x.zero).length = z.cells.size ∧ ∀ i, i < (aggsV x.zero).length → Rel E ι ((aggsV x.zero).getD i .bot) (z.cells.getD i undef) := by
  refine ⟨by rw [aggsV_length, ← hz]; simp, fun i hi => ?_⟩
  rw [aggsV_length] at hi
  rw [aggsV_get _ _ hi]
  have hi' : i < z.cells.size := by rw [← hz] at hi; simpa using hi
  have e : z.cells.getD i undef = x.zero[i] := by
    simp [hi', ← hz]
  rw [e]
  exact .F (.val _ (g.zone _ (List.getElem_mem _)))
theorem idFree_aggsV (l : List Value) : idFreeL (aggsV l) = true := by
  induction l with
  | nil => rfl
  | cons v l ih => simp [aggsV, idFreeL, AV.idFree, ih]
/-- rows of n elements of c cells each, as their values lie -/
def RowOk (E : Env) (ag : Bool) (c n : Nat) (f : Nat → AV) (vs : Nat → Value) : Prop :=
  (∀ i, i < n → (f i).cells.length = c ∧ (f i).isAgg = ag) ∧ ∀ i j, i < n → j < c → (vs (i * c + j)).oneCell' = true ∧ RelF E ((f i).cells.getD j .bot) (vs (i * c + j))
theorem fillE_rel {E : Env} {ι : Io} {ag : Bool} {c n : Nat} : ∀ (ps : List (Nat × AV)) (qs : List (Nat × Value)) (f : Nat → AV) (vs : Array Value), bsOk ag c n ps = true → ps.length = qs.length → (∀ i, i < ps.length → ((ps.getD i (0, .bot)).1 = (qs.getD i (0, undef)).1 ∧ Rel E ι (ps.getD i (0, .bot)).2 (qs.getD i (0, undef)).2)) →
      vs.size = n * c → RowOk E ag c n f (fun i => vs.getD i undef) → ∃ vs', Instr.fill (fun i => some (i * c, c)) vs qs = some vs' ∧ vs'.size = n * c ∧ RowOk E ag c n (fillE f ps) (fun i => vs'.getD i undef) := by
  intro ps
  induction ps with
  | nil =>
    intro qs f vs _ hl _ hv hr
    have : qs = [] := by simpa using hl.symm
    subst this
    exact ⟨vs, rfl, hv, hr⟩
  | cons p ps ih =>
    intro qs f vs hb hl hp hv hr
    match qs, hl with
    | q :: qs, hl =>
      obtain ⟨j, a⟩ := p
      obtain ⟨j', v⟩ := q
      have h0 := hp 0 (by simp)
      simp only [List.getD_cons_zero] at h0
      obtain ⟨e, h0⟩ := h0
      subst e
      simp only [bsOk, Bool.and_eq_true, Nat.beq_eq, beq_iff_eq, Bool.not_eq_true'] at hb
      obtain ⟨⟨⟨⟨⟨⟨b1, b2⟩, b3⟩, b4⟩, b5⟩, b6⟩, b7⟩ := hb
      have b1 := Nat.blt_eq.mp b1
      obtain ⟨c1, c2⟩ := h0.cells b6
      have hle : j * c + c ≤ n * c := by
        have : (j + 1) * c ≤ n * c := Nat.mul_le_mul_right _ b1
        rw [Nat.add_mul, Nat.one_mul] at this
        exact this
      have hrow : RowOk E ag c n (fun k => bif Nat.beq k j then a else f k) (fun i => (putV vs (j * c) v.cells.toList).getD i undef) := by
        refine ⟨fun i hi => ?_, fun i q hi hq => ?_⟩
        · cases hij : Nat.beq i j with
          | true => simp only [hij, cond_true]; exact ⟨b2, b3⟩
          | false => simp only [hij, cond_false]; exact hr.1 i hi
        · simp only
          rw [putV_get _ _ _ _ (by simp; omega)]
          simp only [Array.length_toList]
          cases hij : Nat.beq i j with
          | true =>
            have := Nat.eq_of_beq_eq_true hij
            subst this
            simp only [cond_true]
            rw [if_pos (by omega), show i * c + q - i * c = q by omega]
            have hq' : q < a.cells.length := by omega
            have := c2 q hq'
            have e : v.cells.toList.getD q undef = v.cells.getD q undef := by simp
            rw [e]
            exact ⟨may_one this (mays_get b4 q hq'), idFreeL_get _ _ hq' (idFree_cells b5) this⟩
          | false =>
            simp only [cond_false]
            have hne : i ≠ j := fun e => by subst e; simp at hij
            rw [if_neg ?_]
            · exact hr.2 i q hi hq
            · rintro ⟨a1, a2⟩
              rcases Nat.lt_or_gt_of_ne hne with h | h
              · have : (i + 1) * c ≤ j * c := Nat.mul_le_mul_right _ h
                rw [Nat.add_mul, Nat.one_mul] at this
                omega
              · have : (j + 1) * c ≤ i * c := Nat.mul_le_mul_right _ h
                rw [Nat.add_mul, Nat.one_mul] at this
                omega
      obtain ⟨vs', r1, r2, r3⟩ := ih qs (fun k => bif Nat.beq k j then a else f k) (putV vs (j * c) v.cells.toList) b7 (by simpa using hl) (fun i hi => by
          have := hp (i + 1) (by simpa using hi)
          simpa using this) (by rw [putV_size, hv]) hrow
      refine ⟨vs', ?_, r2, r3⟩
      simp only [Instr.fill]
      rw [if_neg (by simp; omega), ← r1]
      congr 1
      rw [← Array.foldl_toList, Array.toList_zipIdx]
      exact zipIdx_put (j * c) v.cells.toList vs 0
/-- a new row, and the world behind it -/
theorem Den.newRow {E : Env} {ι : Io} {h : Hp} {w : World} (d : Den E ι h w) {id : Id} (hi : ι id = []) {ag : Bool} {c n : Nat} {f : Nat → AV} (cells : Array Value) (t : TypeId) (hr : RowOk E ag c n f (fun i => cells.getD i undef)) (hn : n * c ≤ cells.size) :
    Den E (ins ι id [⟨w.heap.size, 0, cells.size, false⟩]) (upd h id (.arr ag 0 c n f)) { w with heap := w.heap.push (.cells cells t (0, 0)) } := by
  refine d.new hi cells t (0, 0) ⟨w.heap.size, 0, cells.size, false⟩ rfl rfl _ ⟨hr.1, ⟨w.heap.size, 0, cells.size, false⟩, by rw [ins_same]; rfl, by rw [ins_same]; rfl, fun h => (by cases h), fun _ => ⟨cells, ⟨t, (0, 0), ?_, fun i _ => by omega⟩, rfl, by simpa using hn, fun i j hi hj => ?_⟩⟩
  · show (w.heap.push _)[w.heap.size]? = _
    simp
  · have := hr.2 i j hi hj
    simpa using this
/-- what a step of the machine owes -/
def StepOk (P : Program) (E : Env) (ι : Io) (h : Hp) (w : World) (a : Act) (o : Oper) (v : AV) (L' : Lh) (fr' : List Nat) : Prop :=
  ∃ r w' ι', ((execOp a.eval o).run P w = .ok (.value r) w' ∨ ((execOp a.eval o).run P w = .ok .skip w' ∧ r = undef)) ∧ Io.le ι ι' ∧ Den E ι' (hp h L') w' ∧ Rel E ι' v r ∧ (fr'.Nodup ∧ ∀ n ∈ fr', ι' (.l n) = []) ∧ (∀ i, ι' (.o i) = ι (.o i)) ∧ (∀ j, ι' (.n j) = ι (.n j))
def StepGood (P : Program) (ty : TypeId → TI) (T : Tm) (L : Lh) (fr : List Nat) (o : Oper) (v : AV) (L' : Lh) (fr' : List Nat) : Prop :=
  ∀ (E : Env) (ι : Io) (h : Hp) (w : World) (a : Act), TOk E ι T a.tmps → Den E ι (hp h L) w → (fr.Nodup ∧ ∀ n ∈ fr, ι (.l n) = []) → StepOk P E ι h w a o v L' fr'
def PureGood (P : Program) (T : Tm) (L : Lh) (o : Oper) (v : AV) : Prop :=
  ∀ (E : Env) (ι : Io) (hh : Hp) (w : World) (a : Act), TOk E ι T a.tmps → Den E ι (hp hh L) w → ∃ r, (execOp a.eval o).run P w = .ok (.value r) w ∧ Rel E ι v r
theorem StepGood.pure {ty : TypeId → TI} {T : Tm} {L : Lh} {fr : List Nat} {o : Oper} {v : AV} (h : ∀ (E : Env) (ι : Io) (hh : Hp) (w : World) (a : Act), TOk E ι T a.tmps → Den E ι (hp hh L) w → ∃ r, (execOp a.eval o).run P w = .ok (.value r) w ∧ Rel E ι v r) : StepGood P ty T L fr o v L fr :=
  fun E ι hh w a hT hD hf => by
    obtain ⟨r, h1, h2⟩ := h E ι hh w a hT hD
    exact ⟨r, w, ι, .inl h1, Io.le.refl ι, hD, h2, hf, fun _ => rfl, fun _ => rfl⟩
theorem StepGood.new {ty : TypeId → TI} {T : Tm} {L : Lh} {n : Nat} {fr : List Nat} {o : Oper} {cs : List AV}
    (h : ∀ (E : Env) (ι : Io) (hh : Hp) (w : World) (a : Act), TOk E ι T a.tmps → Den E ι (hp hh L) w → ∃ (vs : Array Value) (t : TypeId), (execOp a.eval o).run P w = .ok (.value (.pointer (some ⟨w.heap.size, 0, none⟩))) { w with heap := w.heap.push (.cells vs t (0, 0)) } ∧
      cs.length = vs.size ∧ ∀ i, i < cs.length → Rel E ι (cs.getD i .bot) (vs.getD i undef)) : StepGood P ty T L (n :: fr) o (.ptr (.l n) 0) ((n, .obj cs) :: L) fr :=
  fun E ι hh w a hT hD hf => by
    obtain ⟨vs, t, h1, h2, h3⟩ := h E ι hh w a hT hD
    have hfr : ι (.l n) = [] := hf.2 n (by simp)
    have hle : Io.le ι (ins ι (.l n) [⟨w.heap.size, 0, vs.size, false⟩]) := ins_le (.inl hfr)
    refine ⟨_, _, ins ι (.l n) [⟨w.heap.size, 0, vs.size, false⟩], .inl h1, hle, ?_, ?_, ⟨(List.nodup_cons.1 hf.1).2, fun m hm => ?_⟩, fun i => ins_ne (by simp), fun j => ins_ne (by simp)⟩
    · rw [hp_cons]
      refine hD.new hfr vs t (0, 0) ⟨w.heap.size, 0, vs.size, false⟩ rfl rfl _ ⟨_, vs, ins_same _ _ _, rfl, ⟨t, (0, 0), ?_, fun i _ => by omega⟩, h2.symm, fun i hi => (h3 i hi).mono (Env.le.refl E) hle⟩
      show (w.heap.push _)[w.heap.size]? = _
      simp
    · exact .ptr _ _ ⟨w.heap.size, 0, vs.size, false⟩ (by rw [ins_same]; rfl)
    · rw [ins_ne (by
        intro e
        cases e
        exact (List.nodup_cons.1 hf.1).1 hm)]
      exact hf.2 m (by simp [hm])
theorem run_buildSlice_empty {t e : TypeId} {x y : TI} (g : TyGood P t x) (h : x.td = .slice e) (ge : TyGood P e y) (w : World) : (Instr.buildSlice t 0 #[]).run P w = .ok (.slice (some ⟨w.heap.size, 0, none⟩) 0 0) (w.alloc (.cells #[] e)) := by
  simp [Instr.buildSlice, run_underlying (desc_slice g h), run_size ge, newRow, Instr.fill]
  congr 2
  exact Array.eq_empty_of_size_eq_zero (by simp)
theorem bsK_sound {α : Type} {ty : TypeId → TI} (hty : TyOk P ty) (T : Tm) (L : Lh) (fr : List Nat) (o : Oper) (t : TypeId) (len : Nat) (parts : Array (Nat × Operand)) (ho : o.op = .buildSlice t len parts) (s : α) (k : AV → Lh → List Nat → Prop → α) :
    bsK ty T L fr t len parts.toList s k = s ∨ ∃ v L' fr' C, bsK ty T L fr t len parts.toList s k = k v L' fr' C ∧ (C → StepGood P ty T L fr o v L' fr') := by
  unfold bsK
  split
  · exact .inl rfl
  · rename_i hk
    split
    · rename_i e he
      split
      · exact .inl rfl
      · rename_i hb
        simp only [Bool.and_eq_true, Nat.ble_eq] at hb
        obtain ⟨⟨⟨b1, b2⟩, b3⟩, b4⟩ := hb
        split
        · exact .inl rfl
        · rename_i n fr
          refine (partsK_eq T parts.toList s _).elim (fun h => .inl h) (fun ⟨vs, h, hr⟩ => ?_)
          rw [h]
          split
          · exact .inl rfl
          · rename_i hbs
            refine .inr ⟨_, _, _, _, rfl, fun _ E ι hh w a hT hD hf => ?_⟩
            have g := hty t hk
            have ge := hty e b1
            obtain ⟨i, z, h1, h2, h3, h4, h5⟩ := ge.info
            obtain ⟨z1, z2⟩ := zero_rel (E := E) (ι := ι) ge h5
            obtain ⟨r1, r2⟩ := hr E ι a hT
            have hzs : z.cells.size = (ty e).size := by rw [← z1, aggsV_length, ge.zsize]
            have hz0 : ∀ m, m < len * (ty e).size → ((Array.range (len * (ty e).size)).map (z.cells[· % z.cells.size]!)).getD m undef = z.cells.getD (m % (ty e).size) undef := by
              intro m hm
              have hlt : m % (ty e).size < z.cells.size := by rw [hzs]; exact Nat.mod_lt _ (by omega)
              rw [Array.getD_eq_getD_getElem?, Array.getElem?_map, Array.getElem?_range, if_pos hm]
              simp only [Option.map_some, Option.getD_some]
              rw [hzs, getElem!_pos z.cells _ hlt]
              simp [hlt]
            have hzc : (ofCells (ty e).agg (aggsV (ty e).zero)).cells.length = (ty e).size ∧ (ofCells (ty e).agg (aggsV (ty e).zero)).isAgg = (ty e).agg ∧ ∀ j, (ofCells (ty e).agg (aggsV (ty e).zero)).cells.getD j .bot = (aggsV (ty e).zero).getD j .bot := by
              cases hag : (ty e).agg with
              | true =>
                have : ofCells true (aggsV (ty e).zero) = .agg (aggsV (ty e).zero) := by unfold ofCells; rfl
                rw [this]
                exact ⟨by simp only [AV.cells]; rw [aggsV_length, ge.zsize], rfl, fun j => rfl⟩
              | false =>
                have h1 := ge.one hag
                have hl : (ty e).zero.length = 1 := by rw [ge.zsize, h1]
                obtain ⟨u, hu⟩ := List.length_eq_one_iff.1 hl
                rw [hu]
                exact ⟨by rw [h1]; rfl, rfl, fun j => rfl⟩
            have hbase : RowOk E (ty e).agg (ty e).size len (fun _ => ofCells (ty e).agg (aggsV (ty e).zero)) (fun i => ((Array.range (len * (ty e).size)).map (z.cells[· % z.cells.size]!)).getD i undef) := by
              refine ⟨fun i hi => ⟨hzc.1, hzc.2.1⟩, fun i j hi hj => ?_⟩
              have hle : i * (ty e).size + (ty e).size ≤ len * (ty e).size := by
                have : (i + 1) * (ty e).size ≤ len * (ty e).size := Nat.mul_le_mul_right _ hi
                rw [Nat.add_mul, Nat.one_mul] at this
                exact this
              simp only
              rw [hz0 _ (by omega), Nat.mul_add_mod_self_right, Nat.mod_eq_of_lt hj, hzc.2.2 j]
              have hj' : j < (aggsV (ty e).zero).length := by rw [aggsV_length, ge.zsize]; exact hj
              have := z2 j hj'
              exact ⟨may_one this (mays_get b4 j hj'), idFreeL_get _ _ hj' (idFree_aggsV _) this⟩
            obtain ⟨vs', q1, q2, q3⟩ := fillE_rel (ι := ι) vs (parts.toList.map fun p => (p.1, a.eval p.2)) _ _ hbs (by simp [r1]) r2 (by simp) hbase
            have hfr : ι (.l n) = [] := hf.2 n (by simp)
            have hrun : (execOp a.eval o).run P w = .ok (.value (.slice (some ⟨w.heap.size, 0, none⟩) len len)) { w with heap := w.heap.push (.cells vs' e (0, 0)) } := by
              have e1 : (parts.map fun (i, x) => (i, a.eval x)).toList = parts.toList.map fun p => (p.1, a.eval p.2) := by simp
              by_cases hlen : len = 0
              · subst hlen
                have hp0 : parts.toList = [] := by
                  cases hpl : parts.toList with
                  | nil => rfl
                  | cons p ps =>
                    rw [hpl] at r1
                    match vs, r1 with
                    | v :: vs, _ => simp [bsOk] at hbs
                have hp1 : parts = #[] := by simpa using hp0
                have hv0 : vs' = #[] := by
                  have : vs'.size = 0 := by simpa using q2
                  simpa using this
                subst hp1 hv0
                have := run_buildSlice_empty (P := P) g he ge w
                simp only [execOp, ho]
                simp [this]
              · have := run_buildSlice (P := P) w t e len (parts.map fun (i, x) => (i, a.eval x)) vs' i z (desc_slice g he) h1 h4 (by rw [h2]; simp; omega) (by rw [h2]; have := Nat.mul_pos (Nat.pos_of_ne_zero hlen) b2; omega) (by rw [h2, e1]; exact q1)
                simp only [execOp, ho]
                simp [this]
            refine ⟨_, _, ins ι (.l n) [⟨w.heap.size, 0, vs'.size, false⟩], .inl hrun, ins_le (.inl hfr), ?_, ?_, ⟨(List.nodup_cons.1 hf.1).2, fun m hm => ?_⟩, fun i => ins_ne (by simp), fun j => ins_ne (by simp)⟩
            · rw [hp_cons]
              exact hD.newRow hfr vs' e q3 (by omega)
            · have := Rel.sl (E := E) (ι := ins ι (.l n) [⟨w.heap.size, 0, vs'.size, false⟩]) (.l n) 0 (ty e).size 0 len len len ⟨w.heap.size, 0, vs'.size, false⟩ (by rw [ins_same]; rfl) rfl (Nat.le_refl _) (Nat.le_refl _) (by simp [q2])
              simpa using this
            · rw [ins_ne (by
                intro e
                cases e
                exact (List.nodup_cons.1 hf.1).1 hm)]
              exact hf.2 m (by simp [hm])
    · exact .inl rfl
end Go.AM
