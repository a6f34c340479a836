/- The evaluator: code over abstract values, with what follows behind it. -/
import Derived.Test.YtllnbcibleeogaaDoorEvA
namespace Go.Ev

structure St where
  t : List AV
  h : List Blk
  deriving Inhabited

structure K (R : Type) where
  nrm : St → Option R
  ext : Nat → St → Option R
  gto : Nat → St → Option R
  ret : St → Option R

/-- What is known of a function: what it answers, and what becomes of the blocks that it is handed. -/
def Con : Type 1 := ∀ R : Type, List AV → List Blk → (AV → List Blk → Option R) → Option R

abbrev Kop (R : Type) := AV → List (Nat × Blk) → Option R

/-- What is given with a program. -/
structure Gi where
  P : Program
  gt : Nat → Option AV
  con : Nat → Option Con

def und : AV := .tup []

def ofVal : Value → AV
  | .int k n => cond (k.signed || decide (0 ≤ n)) (.int k n) .dead
  | .bool b => .bool b
  | .string s => .str s.data.toList
  | .pointer none => .nilp
  | .slice none 0 0 => .nils
  | .nilIface => .err 0
  | _ => .dead

def oneB : Value → Bool
  | .agg _ => false
  | .tuple _ => false
  | _ => true

def parseL (f : TypeId → List Value → Option (AV × List Value)) : List TypeId → List Value → Option (List AV × List Value)
  | [], cs => some ([], cs)
  | t :: ts, cs => match f t cs with
    | some (v, r) => match parseL f ts r with
      | some (l, r') => some (v :: l, r')
      | none => none
    | none => none

def takeInts (k : IntKind) : Nat → List Value → Option (List Int × List Value)
  | 0, cs => some ([], cs)
  | n + 1, .int k' x :: cs => cond (decide (k = k') && (k.signed || decide (0 ≤ x))) (match takeInts k n cs with
    | some (l, r) => some (x :: l, r)
    | none => none) none
  | _, _ => none

/-- Cells read as a value of a type. -/
def parse (P : Program) : Nat → TypeId → List Value → Option (AV × List Value)
  | 0, _, _ => none
  | d + 1, t, cs => match P.underlying t with
    | some (.array n e) => match P.underlying e with
      | some (.int k) => match takeInts k n cs with
        | some (l, r) => some (.ints k n l, r)
        | none => none
      | _ => match parseL (parse P d) (List.replicate n e) cs with
        | some (l, r) => some (.agg l, r)
        | none => none
    | some (.struct fs) => match parseL (parse P d) (fs.toList.map (·.type)) cs with
      | some (l, r) => some (.agg l, r)
      | none => none
    | _ => match cs with
      | c :: r => cond (oneB c) (some (ofVal c, r)) none
      | [] => none

def zeroAV (P : Program) (t : TypeId) : Option AV := match P.info? t with
  | some i => match i.zero with
    | some z => match parse P 12 t z.cells.toList with
      | some (v, []) => some v
      | _ => none
    | none => none
  | none => none

def isAg (P : Program) (t : TypeId) : Bool := match P.underlying t with
  | some (.struct _) => true
  | some (.array ..) => true
  | _ => false

def AV.ag : AV → Bool
  | .ints .. => true
  | .agg _ => true
  | _ => false

def szIs (P : Program) (t : TypeId) (n : Nat) : Bool := match P.info? t with
  | some i => Nat.beq i.size n
  | none => false

/-- A value fits a type: in memory it takes so many cells as the type says. -/
def fits (P : Program) (t : TypeId) (v : AV) : Bool := (P.underlying t).isSome && (isAg P t == v.ag) && szIs P t (sh v).len

def evO (t : List AV) : Operand → AV
  | .tmp i => t.getD i und
  | .const v => ofVal v
  | .global g => .glo g
  | .func f => .fn f

/-- A slice's elements, out of its row's. -/
def cut (len : Option Nat) (off : Nat) (l : List Int) : List Int := match len with
  | some n => (l.drop off).take n
  | none => l.drop off

def cont (look : Nat → Blk) (k : IntKind) : AV → Option (List Int)
  | .nils => some []
  | .isl k' _ l => cond (decide (k = k')) (some l) none
  | .own id path off len => match look id with
    | .row k' _ l => match path with
      | [] => cond (decide (k = k')) (some (cut len off l)) none
      | _ => none
    | .var t => match getP t path with
      | some (.ints k' _ l) => cond (decide (k = k')) (some (cut len off l)) none
      | _ => none
    | _ => none
  | _ => none

def slLen (look : Nat → Blk) : AV → Option Nat
  | .nils => some 0
  | .isl _ _ l => some l.length
  | .rsl _ ll => some ll.length
  | .own id path off len => match look id with
    | .row _ _ l => some (olen len l.length off)
    | .var t => match getP t path with
      | some (.ints _ n _) => some (olen len n off)
      | _ => none
    | _ => none
  | _ => none

/-! ### whole numbers -/

def iand (k : IntKind) (x y : Int) : Int := k.wrap ((BitVec.ofInt k.bits x) &&& (BitVec.ofInt k.bits y)).toNat
def ior (k : IntKind) (x y : Int) : Int := k.wrap ((BitVec.ofInt k.bits x) ||| (BitVec.ofInt k.bits y)).toNat
def ixor (k : IntKind) (x y : Int) : Int := k.wrap ((BitVec.ofInt k.bits x) ^^^ (BitVec.ofInt k.bits y)).toNat
def iandn (k : IntKind) (x y : Int) : Int := k.wrap ((BitVec.ofInt k.bits x) &&& ~~~(BitVec.ofInt k.bits y)).toNat
def ishl (k : IntKind) (x y : Int) : Int := k.wrap (x * 2 ^ (min y.toNat k.bits))
def ishr (k : IntKind) (x y : Int) : Int := x.fdiv (2 ^ (min y.toNat k.bits))
def inot (k : IntKind) (x : Int) : Int := k.wrap ((BitVec.ofInt k.bits (if k.signed then -1 else k.max)) ^^^ (BitVec.ofInt k.bits x)).toNat

/-- The zero value of a kind of numbers; of a slice's type. -/
def intZero (i : TypeInfo) (k : IntKind) : Bool := match i.zero with
  | some (.int k' n) => decide (k = k') && decide (n = 0)
  | _ => false

def slZero (i : TypeInfo) : Bool := match i.zero with
  | some (.slice none 0 0) => true
  | _ => false

def AV.boxable : AV → Bool
  | .tup _ => false
  | .dead => false
  | _ => true

def AV.intK (k : IntKind) : AV → Bool
  | .int k' _ => decide (k = k')
  | _ => false

/-- At a path lies an array of numbers: what is stored there is a number of its kind. -/
def kindOk : AV → List Nat → AV → Bool
  | .ints k _ _, [_], x => x.intK k
  | .agg l, i :: p, x => match l[i]? with
    | some v => kindOk v p x
    | none => false
  | _, _, _ => true

section ops
variable {R : Type} (G : Gi) (look : Nat → Blk) (nid : Nat) (κ : Kop R)

def binE (op : BinOp) (t : TypeId) (x y : AV) : Option R :=
  match x, y with
  | .int k a, .int k' b => match op with
    | .shl => cond (k'.signed && decide (b < 0)) none (κ (.int k (ishl k a b)) [])
    | .shr => cond (k'.signed && decide (b < 0)) none (κ (.int k (ishr k a b)) [])
    | op => cond (decide (k = k')) (match op with
      | .add => κ (.int k (k.wrap (a + b))) []
      | .sub => κ (.int k (k.wrap (a - b))) []
      | .mul => κ (.int k (k.wrap (a * b))) []
      | .quo => cond (decide (b = 0)) none (κ (.int k (k.wrap (a.tdiv b))) [])
      | .rem => cond (decide (b = 0)) none (κ (.int k (a.tmod b)) [])
      | .and => κ (.int k (iand k a b)) []
      | .or => κ (.int k (ior k a b)) []
      | .xor => κ (.int k (ixor k a b)) []
      | .andNot => κ (.int k (iandn k a b)) []
      | .eql => κ (.bool (a == b)) []
      | .neq => κ (.bool (a != b)) []
      | .lss => κ (.bool (decide (a < b))) []
      | .leq => κ (.bool (decide (a ≤ b))) []
      | .gtr => κ (.bool (decide (a > b))) []
      | .geq => κ (.bool (decide (a ≥ b))) []
      | _ => none) none
  | .bool a, .bool b => match op, G.P.underlying t with
    | .eql, some .bool => κ (.bool (a == b)) []
    | .neq, some .bool => κ (.bool (!(a == b))) []
    | _, _ => none
  | .str a, .str b => match op with
    | .eql => κ (.bool (a == b)) []
    | .neq => κ (.bool (!(a == b))) []
    | .add => cond (decide (((a.length + b.length : Nat) : Int) ≤ 9223372036854775807)) (κ (.str (a ++ b)) []) none
    | _ => none
  | .ints k n a, .ints k' n' b => match G.P.underlying t with
    | some (.array m e) => match G.P.underlying e with
      | some (.int k'') => cond (decide (k = k') && decide (k = k'') && Nat.beq n n' && Nat.beq n m && szIs G.P e 1) (match op with
        | .eql => κ (.bool (a == b)) []
        | .neq => κ (.bool (!(a == b))) []
        | _ => none) none
      | _ => none
    | _ => none
  | .isl _ (some nl) _, .nils => match op, G.P.underlying t with
    | .eql, some (.slice _) => κ (.bool nl) []
    | .neq, some (.slice _) => κ (.bool (!nl)) []
    | _, _ => none
  | _, _ => none

/-- '==' and '!=' of errors: one of them is the literal nil. -/
def errE (op : BinOp) (t : TypeId) (x y : AV) (xo yo : Operand) : Option R :=
  match x, y, xo, yo, op, G.P.underlying t with
  | .err n, .err 0, _, .const _, .eql, some (.interface _) => κ (.bool (Nat.beq n 0)) []
  | .err n, .err 0, _, .const _, .neq, some (.interface _) => κ (.bool (!Nat.beq n 0)) []
  | _, _, _, _, _, _ => none

def unE (op : UnOp) (x : AV) : Option R :=
  match op, x with
  | .neg, .int k n => κ (.int k (k.wrap (0 - n))) []
  | .xor, .int k n => κ (.int k (inot k n)) []
  | .not, .bool b => κ (.bool (!b)) []
  | _, _ => none

def toStr (l : List Int) : List UInt8 := l.map fun n => UInt8.ofNat n.toNat
def ofStr (l : List UInt8) : List Int := l.map fun b => (b.toNat : Int)

def convE (src dst : TypeId) (x : AV) : Option R :=
  match G.P.underlying src, G.P.underlying dst, x with
  | some _, some (.int k), .int _ n => κ (.int k (k.wrap n)) []
  | some _, some .string, .str l => κ (.str l) []
  | some (.slice e), some .string, x => match G.P.underlying e with
    | some (.int .u8) => match cont look .u8 x with
      | some l => κ (.str (toStr l)) []
      | none => none
    | _ => none
  | _, _, _ => none

/-- A string's bytes, in a new row. -/
def bytesE (src dst : TypeId) (x : AV) : Option R :=
  match G.P.underlying src, G.P.underlying dst, x with
  | some _, some (.slice e), .str l => match G.P.underlying e with
    | some (.int .u8) => κ (.own nid [] 0 none) [(nid, .row .u8 false (ofStr l))]
    | _ => none
  | _, _, _ => none

def allocE (t : TypeId) : Option R := match zeroAV G.P t with
  | some v => κ (.ptr nid []) [(nid, .var v)]
  | none => none

def boxE (x : AV) : Option R := cond x.boxable (κ (.ptr nid []) [(nid, .var x)]) none

/-- Parts laid into a struct's value (its fields' places), or into an array's (places of one cell). -/
def fillE (place : Nat → Option (Nat × Nat)) : List (Nat × AV) → AV → Option AV
  | [], v => some v
  | (i, x) :: rest, v => match place i, Sh.at (sh v) [i] with
    | some (off, size), some (o, s) => cond (Nat.beq off o && Nat.beq size s.len && Sh.beq (sh x) s && x.boxable && kindOk v [i] x) (match setP v [i] x with
      | some v' => fillE place rest v'
      | none => none) none
    | _, _ => none

def places (P : Program) : List Field → Option (List (Nat × Nat))
  | [] => some []
  | f :: fs => match P.info? f.type, places P fs with
    | some i, some l => some ((f.offset, i.size) :: l)
    | _, _ => none

def buildE (t : TypeId) (parts : List (Nat × AV)) : Option R := match zeroAV G.P t with
  | none => none
  | some z => match G.P.underlying t with
    | some (.struct fs) => match places G.P fs.toList with
      | some l => match fillE (l[·]?) parts z with
        | some v => cond v.ag (κ v []) none
        | none => none
      | none => none
    | some (.array _ e) => cond (szIs G.P e 1) (match fillE (fun i => some (i, 1)) parts z with
        | some v => cond v.ag (κ v []) none
        | none => none) none
    | _ => none

def setL (k : IntKind) : List (Nat × AV) → List Int → Option (List Int)
  | [], l => some l
  | (i, .int k' x) :: rest, l => cond (decide (k = k') && Nat.blt i l.length) (setL k rest (l.set i x)) none
  | _, _ => none

/-- Rows of whole numbers, and rows of such rows that stay as they are. -/
def rowsL (k : IntKind) : List (Nat × AV) → List (List Int) → Option (List (List Int))
  | [], l => some l
  | (i, .isl k' _ x) :: rest, l => cond (decide (k = k') && Nat.blt i l.length) (rowsL k rest (l.set i x)) none
  | (i, .nils) :: rest, l => cond (Nat.blt i l.length) (rowsL k rest (l.set i [])) none
  | _, _ => none

def buildSliceE (t : TypeId) (len : Nat) (parts : List (Nat × AV)) : Option R := match G.P.underlying t with
  | some (.slice e) => match G.P.info? e with
    | some i => match G.P.underlying e with
      | some (.int k) => cond (Nat.beq i.size 1 && intZero i k && Nat.ble len 100000) (match setL k parts (List.replicate len 0) with
        | some l => κ (.own nid [] 0 none) [(nid, .row k false l)]
        | none => none) none
      | some (.slice e') => match G.P.underlying e' with
        | some (.int k) => cond (Nat.beq i.size 1 && slZero i && Nat.ble len 100000) (match rowsL k parts (List.replicate len []) with
          | some l => κ (.rsl k l) []
          | none => none) none
        | _ => none
      | _ => none
    | none => none
  | _ => none

def loadE (t : TypeId) (a : AV) : Option R := match a with
  | .ptr id path => match look id with
    | .var v => match getP v path with
      | some x => cond (fits G.P t x) (κ x []) none
      | none => none
    | .row k _ l => match path with
      | [i] => cond (fits G.P t (.int k 0)) (κ (.int k (l.getD i 0)) []) none
      | _ => none
    | _ => none
  | .rpi k n => cond (fits G.P t (.int k n)) (κ (.int k n) []) none
  | .rps k l => cond (fits G.P t .nils) (κ (.isl k none l) []) none
  | .glo g => match G.gt g with
    | some v => cond (fits G.P t v) (κ v []) none
    | none => none
  | _ => none

def storeE (t : TypeId) (a x : AV) : Option R := match a with
  | .ptr id path => match look id with
    | .var v => match getP v path, setP v path x with
      | some old, some v' => cond (szIs G.P t (sh x).len && x.boxable && Sh.beq (sh x) (sh old) && kindOk v path x) (κ und [(id, .var v')]) none
      | _, _ => none
    | .row k nl l => match path, x with
      | [i], .int k' z => cond (szIs G.P t 1 && decide (k = k')) (κ und [(id, .row k nl (l.set i z))]) none
      | _, _ => none
    | _ => none
  | _ => none

def nilE (x : AV) : Option R := match x with
  | .ptr .. => κ x []
  | .rpi .. => κ x []
  | .rps .. => κ x []
  | .glo _ => κ x []
  | _ => none

def fieldAddrE (t : TypeId) (x : AV) (f : Nat) : Option R := match x with
  | .ptr id path => match look id with
    | .var v => match getP v path, G.P.underlying t with
      | some (.agg l), some (.struct fs) => match fs[f]? with
        | some fd => match G.P.info? fd.type with
          | some i => cond (!Nat.beq i.size 0 && Nat.blt f l.length && Nat.beq fd.offset (Sh.lenL ((shL l).take f))) (κ (.ptr id (path ++ [f])) []) none
          | none => none
        | none => none
      | _, _ => none
    | _ => none
  | _ => none

def fieldE (t : TypeId) (x : AV) (f : Nat) : Option R := match x with
  | .agg l => match G.P.underlying t with
    | some (.struct fs) => match fs[f]?, l[f]? with
      | some fd, some v => cond (fits G.P fd.type v && Nat.beq fd.offset (Sh.lenL ((shL l).take f))) (κ v []) none
      | _, _ => none
    | _ => none
  | _ => none

def indexAddrE (t : TypeId) (x ix : AV) : Option R := match ix with
  | .int _ i => match G.P.underlying t with
    | some (.array n e) => match x with
      | .ptr id path => match look id with
        | .var v => match getP v path with
          | some (.ints _ m _) => cond (szIs G.P e 1 && Nat.beq n m) (cond (decide (0 ≤ i)) (cond (decide (i < n)) (κ (.ptr id (path ++ [i.toNat])) []) none) none) none
          | _ => none
        | _ => none
      | _ => none
    | some (.slice e) => match x with
      | .isl k _ l => cond (szIs G.P e 1) (cond (decide (0 ≤ i)) (cond (decide (i < l.length)) (κ (.rpi k (l.getD i.toNat 0)) []) none) none) none
      | .rsl k l => cond (szIs G.P e 1) (cond (decide (0 ≤ i)) (cond (decide (i < l.length)) (κ (.rps k (l.getD i.toNat [])) []) none) none) none
      | .own id path off len => match look id with
        | .row _ _ l => match path with
          | [] => cond (szIs G.P e 1) (cond (decide (0 ≤ i)) (cond (decide (i < olen len l.length off)) (κ (.ptr id [off + i.toNat]) []) none) none) none
          | _ => none
        | .var v => match getP v path with
          | some (.ints _ m _) => cond (szIs G.P e 1) (cond (decide (0 ≤ i)) (cond (decide (i < olen len m off)) (κ (.ptr id (path ++ [off + i.toNat])) []) none) none) none
          | _ => none
        | _ => none
      | _ => none
    | _ => none
  | _ => none

def indexE (t : TypeId) (x ix : AV) : Option R := match ix with
  | .int _ i => match G.P.underlying t, x with
    | some (.array n e), .ints k m l => cond (szIs G.P e 1 && (G.P.underlying e).isSome && !isAg G.P e && Nat.beq n m) (cond (decide (0 ≤ i)) (cond (decide (i < n)) (κ (.int k (l.getD i.toNat 0)) []) none) none) none
    | some .string, .str l => cond (decide (0 ≤ i)) (cond (decide (i < l.length)) (κ (.int .u8 ((l.getD i.toNat 0).toNat)) []) none) none
    | _, _ => none
  | _ => none

/-- The bounds of a slice expression: ahead the upper one. -/
def bndE {R : Type} (m : Nat) (len : Nat) (lo hi : Option AV) (κ : Nat → Nat → Option R) : Option R :=
  let lowE (h : Nat) : Option R := match lo with
    | none => κ 0 h
    | some (.int _ l) => cond (decide (0 ≤ l)) (cond (decide (l ≤ h)) (κ l.toNat h) none) none
    | some _ => none
  match hi with
  | none => lowE len
  | some (.int _ h) => cond (decide (0 ≤ h)) (cond (decide (h ≤ m)) (lowE h.toNat) none) none
  | some _ => none

def sliceE (t : TypeId) (x : AV) (lo hi : Option AV) : Option R := match G.P.underlying t, x with
  | some .string, .str l => bndE l.length l.length lo hi fun a b => κ (.str ((l.take b).drop a)) []
  | some (.slice e), .isl k nl l => cond (szIs G.P e 1) (bndE l.length l.length lo hi fun a b => κ (.isl k nl ((l.take b).drop a)) []) none
  | some (.slice e), .own id path off len => cond (szIs G.P e 1) (match look id with
    | .row _ _ l => match path with
      | [] => bndE (l.length - off) (olen len l.length off) lo hi fun a b => κ (.own id [] (off + a) (some (b - a))) []
      | _ => none
    | .var v => match getP v path with
      | some (.ints _ m _) => bndE (m - off) (olen len m off) lo hi fun a b => κ (.own id path (off + a) (some (b - a))) []
      | _ => none
    | _ => none) none
  | some (.array n e), .ptr id path => cond (szIs G.P e 1) (match look id with
    | .var v => match getP v path with
      | some (.ints _ m _) => cond (Nat.beq n m) (bndE n n lo hi fun a b => κ (.own id path a (some (b - a))) []) none
      | _ => none
    | _ => none) none
  | some (.pointer u), .ptr id path => match G.P.underlying u with
    | some (.array n e) => cond (szIs G.P e 1) (match look id with
      | .var v => match getP v path with
        | some (.ints _ m _) => cond (Nat.beq n m) (bndE n n lo hi fun a b => κ (.own id path a (some (b - a))) []) none
        | _ => none
      | _ => none) none
    | _ => none
  | _, _ => none

def makeSliceE (t : TypeId) (l c : AV) : Option R := match G.P.underlying t, l, c with
  | some (.slice e), .int _ n, .int _ m => match G.P.underlying e, G.P.info? e with
    | some (.int k), some i => cond (Nat.beq i.size 1 && intZero i k) (cond (decide (0 ≤ IntKind.i64.wrap n)) (cond (decide (IntKind.i64.wrap n ≤ IntKind.i64.wrap m)) (cond (decide ((i.bytes : Int) * IntKind.i64.wrap m ≤ 140737488355328))
        (κ (.own nid [] 0 none) [(nid, .row k false (List.replicate (IntKind.i64.wrap n).toNat 0))]) none) none) none) none
    | _, _ => none
  | _, _, _ => none

def extractE (x : AV) (i : Nat) : Option R := match x with
  | .tup l => match l[i]? with
    | some v => κ v []
    | none => none
  | _ => none

def lenE (t : TypeId) (x : AV) : Option R := match G.P.underlying t with
  | some .string => match x with
    | .str l => κ (.int .i64 l.length) []
    | _ => none
  | some (.array n _) => κ (.int .i64 n) []
  | some (.slice _) => match slLen look x with
    | some n => κ (.int .i64 n) []
    | none => none
  | _ => none

/-- What is put behind: a slice's elements, or a string's bytes. -/
def srcE (k : IntKind) : AV → Option (List Int)
  | .str l => cond (decide (k = .u8)) (some (ofStr l)) none
  | x => cont look k x

def notInt (P : Program) (t : TypeId) : Bool := match P.underlying t with
  | some (.slice _) => true
  | some .string => true
  | _ => false

def appendE (t tx : TypeId) (d s : AV) : Option R := match G.P.underlying t with
  | some (.slice e) => match G.P.underlying e, G.P.info? e with
    | some (.int k), some i => cond (Nat.beq i.size 1 && intZero i k && notInt G.P tx) (match srcE look k s with
      | some xs => match d with
        | .nils => cond (decide (xs.length * i.bytes ≤ 140737488355328)) (cond (decide (xs.length ≤ 140737488355328)) (κ (.own nid [] 0 none) [(nid, .row k xs.isEmpty xs)]) none) none
        | .own id path off len => match look id, path with
          | .row k' nl l, [] => cond (decide (k = k')) (
              let old := cut len off l
              cond (decide ((old.length + xs.length) * i.bytes ≤ 140737488355328)) (cond (decide (old.length + xs.length ≤ 140737488355328)) (κ (.own nid [] 0 none) [(id, .dead), (nid, .row k (nl && xs.isEmpty) (old ++ xs))]) none) none) none
          | _, _ => none
        | _ => none
      | none => none) none
    | _, _ => none
  | _ => none

def copyE (t : TypeId) (d s : AV) : Option R := match G.P.underlying t with
  | some (.slice e) => match G.P.underlying e with
    | some (.int k) => cond (szIs G.P e 1) (match srcE look k s, d with
      | some xs, .own id path off len => match look id with
        | .row k' nl l => match path with
          | [] => cond (decide (k = k')) (
              let n := min xs.length (olen len l.length off)
              κ (.int .i64 n) [(id, .row k nl (l.take off ++ (xs.take n ++ l.drop (off + n))))]) none
          | _ => none
        | .var v => match getP v path with
          | some (.ints k' m l) => cond (decide (k = k')) (
              let n := min xs.length (olen len m off)
              match setP v path (.ints k m (l.take off ++ (xs.take n ++ l.drop (off + n)))) with
              | some v' => κ (.int .i64 n) [(id, .var v')]
              | none => none) none
          | _ => none
        | _ => none
      | some _, .nils => κ (.int .i64 0) []
      | _, _ => none) none
    | _ => none
  | _ => none
end ops
end Go.Ev
