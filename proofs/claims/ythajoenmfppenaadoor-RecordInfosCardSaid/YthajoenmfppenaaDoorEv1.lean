/- An evaluator over abstract values: what abstract values are and how an operation is carried out over them. -/
import Derived.Orders
import Derived.Still
import Derived.Below
import Derived.ScopeJumps
import Derived.KernelRfl
import Derived.IntWalk
import Derived.Laws.World
import Derived.Laws.Sem
import Derived.Laws.Cells
import Derived.Laws.Bits
import Derived.Laws.BytesArg
import Derived.Laws.BytesString
namespace Go.Ev
inductive T where
  | int (k : IntKind)
  | bool
  | str
  | arr (k : IntKind) (n : Nat)
  | sl (k : IntKind)
  | rw (t : T)
  | st (l : List T)
  deriving Inhabited
mutual
def Den : T → Type
  | .int _ => Int
  | .bool => Bool
  | .str => List UInt8
  | .arr _ _ => List Int
  | .sl _ => List Int
  | .rw t => List (Den t)
  | .st l => DenL l
def DenL : List T → Type
  | [] => Unit
  | t :: l => Den t × DenL l
end
mutual
def dflt : (t : T) → Den t
  | .int _ => (0 : Int)
  | .bool => false
  | .str => ([] : List UInt8)
  | .arr _ n => List.replicate n (0 : Int)
  | .sl _ => ([] : List Int)
  | .rw t => ([] : List (Den t))
  | .st l => dfltL l
def dfltL : (l : List T) → DenL l
  | [] => ()
  | t :: l => (dflt t, dfltL l)
end
mutual
def T.len : T → Nat
  | .arr _ n => n
  | .st l => T.lenL l
  | .int _ | .bool | .str | .sl _ | .rw _ => 1
def T.lenL : List T → Nat
  | [] => 0
  | t :: l => T.len t + T.lenL l
end
inductive AV where
  | dead
  | int (k : IntKind) (n : Int)
  | bool (b : Bool)
  | str (l : List UInt8)
  | ints (k : IntKind) (n : Nat) (l : List Int)
  | agg (l : List AV)
  | tup (l : List AV)
  | nils
  | isl (k : IntKind) (nl : Option Bool) (l : List Int)
  | rsl (k : IntKind) (ll : List (List Int))
  | own (id : Nat) (path : List Nat) (off : Nat) (len : Option Nat)
  | ptr (id : Nat) (path : List Nat)
  | rpi (k : IntKind) (n : Int)
  | rps (k : IntKind) (l : List Int)
  | esl (l : List Nat)
  | rpe (n : Nat)
  | capv (id off : Nat)
  | ownx (id off : Nat)
  | asl (id n : Nat)
  | ige (n : Nat)
  | emp
  | nilp
  | err (n : Nat)
  | glo (g : Nat)
  | fn (f : Nat)
  | gsl (t : T) (l : List (Den t))
  | rpg (t : T) (x : Den t)
  | cls (f : Nat) (l : List ((t : T) × Den t))
  deriving Inhabited
def mkRow : (t : T) → List (Den t) → AV
  | .int k, l => .isl k none l
  | .sl k, l => .rsl k l
  | .bool, l => .gsl .bool l
  | .str, l => .gsl .str l
  | .arr k n, l => .gsl (.arr k n) l
  | .rw t, l => .gsl (.rw t) l
  | .st ts, l => .gsl (.st ts) l
mutual
def enc : (t : T) → Den t → AV
  | .int k, n => .int k n
  | .bool, b => .bool b
  | .str, l => .str l
  | .arr k n, l => .ints k n l
  | .sl k, l => .isl k none l
  | .rw t, l => mkRow t l
  | .st ts, x => .agg (encL ts x)
def encL : (ts : List T) → DenL ts → List AV
  | [], _ => []
  | t :: ts, x => enc t x.1 :: encL ts x.2
end
inductive Blk where
  | rsv
  | dead
  | var (v : AV)
  | row (k : IntKind) (nl : Bool) (l : List Int)
  | gro (t : T) (nl : Bool) (l : List (Den t))
  deriving Inhabited
inductive Sh where
  | leaf
  | ints (n : Nat)
  | agg (l : List Sh)
  deriving Inhabited
inductive BSh where
  | rsv
  | dead
  | var (s : Sh)
  | row (k : IntKind) (nl : Bool) (len : Nat)
  | gro (sz : Nat) (nl : Bool) (len : Nat)
  deriving Inhabited
mutual
def sh : AV → Sh
  | .ints _ n _ => .ints n
  | .agg l => .agg (shL l)
  | .dead | .int .. | .bool _ | .str _ | .tup _ | .nils | .isl .. | .rsl .. | .own .. | .ptr .. | .rpi .. | .rps .. | .esl _ | .rpe _ | .capv .. | .ownx .. | .asl .. | .ige _ | .emp | .nilp | .err _ | .glo _ | .fn _ | .gsl .. | .rpg .. | .cls .. => .leaf
def shL : List AV → List Sh
  | [] => []
  | v :: l => sh v :: shL l
end
mutual
def Sh.beq : Sh → Sh → Bool
  | .leaf, .leaf => true
  | .ints n, .ints m => Nat.beq n m
  | .agg l, .agg m => Sh.beqL l m
  | _, _ => false
def Sh.beqL : List Sh → List Sh → Bool
  | [], [] => true
  | a :: l, b :: m => Sh.beq a b && Sh.beqL l m
  | _, _ => false
end
mutual
def Sh.len : Sh → Nat
  | .leaf => 1
  | .ints n => n
  | .agg l => Sh.lenL l
def Sh.lenL : List Sh → Nat
  | [] => 0
  | a :: l => Sh.len a + Sh.lenL l
end
def Blk.sh : Blk → BSh
  | .rsv => .rsv
  | .dead => .dead
  | .var v => .var (Ev.sh v)
  | .row k nl l => .row k nl l.length
  | .gro t nl l => .gro t.len nl l.length
def Sh.at : Sh → List Nat → Option (Nat × Sh)
  | s, [] => some (0, s)
  | .ints n, [i] => if i < n then some (i, .leaf) else none
  | .agg l, i :: p => match l[i]? with
    | some s => match Sh.at s p with
      | some (o, t) => some (Sh.lenL (l.take i) + o, t)
      | none => none
    | none => none
  | _, _ => none
def getP : AV → List Nat → Option AV
  | v, [] => some v
  | .ints k _ l, [i] => some (.int k (l.getD i 0))
  | .agg l, i :: p => match l[i]? with
    | some v => getP v p
    | none => none
  | _, _ => none
def setP : AV → List Nat → AV → Option AV
  | _, [], x => some x
  | .ints k n l, [i], .int _ z => some (.ints k n (l.set i z))
  | .agg l, i :: p, x => match l[i]? with
    | some v => match setP v p x with
      | some v' => some (.agg (l.set i v'))
      | none => none
    | none => none
  | _, _, _ => none
structure Loc where
  b : Nat
  o : Nat
  cap : Nat
  deriving Inhabited
def BSh.owns : BSh → Loc → Nat → Nat → Prop
  | .var s, p, b, o => b = p.b ∧ p.o ≤ o ∧ o < p.o + s.len
  | .row _ nl _, p, b, o => nl = false ∧ b = p.b ∧ p.o ≤ o ∧ o < p.o + p.cap
  | .gro _ nl _, p, b, o => nl = false ∧ b = p.b ∧ p.o ≤ o ∧ o < p.o + p.cap
  | _, _, _, _ => False
structure Cx where
  eps : Nat → Value
  w : World
  A : Nat → Nat → Prop
  S : List BSh
  L : List Loc
def own (S : List BSh) (L : List Loc) (b o : Nat) : Prop := ∃ (id : Nat) (s : BSh) (p : Loc), S[id]? = some s ∧ L[id]? = some p ∧ s.owns p b o
def NN (k : IntKind) (l : List Int) : Prop := k.signed = false → ∀ x ∈ l, 0 ≤ x
theorem ne_nil_of {α : Type} {l : List α} {i : Nat} (h : i < l.length) : l ≠ [] := by rintro rfl; simp at h
def Lies (w : World) (A : Nat → Nat → Prop) (k : IntKind) (l : List Int) (a : Addr) : Prop :=
  (l ≠ [] → a.spot = none) ∧ ∀ i (h : i < l.length), w.cell? ⟨a.block, a.off + i, none⟩ = some (.int k l[i]) ∧ ¬ A a.block (a.off + i)
def IsSl (w : World) (A : Nat → Nat → Prop) (k : IntKind) (nl : Option Bool) (l : List Int) (v : Value) : Prop :=
  NN k l ∧ ∃ a cap, v = .slice a l.length cap ∧ l.length ≤ cap ∧ (∀ b, nl = some b → a.isNone = b) ∧ (a = none → l = [] ∧ cap = 0) ∧ ∀ p, a = some p → Lies w A k l p
def IsRw {α : Type} (w : World) (A : Nat → Nat → Prop) (n : Nat) (F : α → List Value → Prop) (l : List α) (v : Value) : Prop :=
  ∃ a cap, v = .slice a l.length cap ∧ l.length ≤ cap ∧ (a = none → l = [] ∧ cap = 0) ∧ ∀ p, a = some p → (l ≠ [] → p.spot = none) ∧
    ∀ i (h : i < l.length), ∃ cs, F l[i] cs ∧ cs.length = n ∧ ∀ j (g : j < cs.length), w.cell? ⟨p.block, p.off + n * i + j, none⟩ = some cs[j] ∧ ¬ A p.block (p.off + n * i + j)
mutual
def Fz (w : World) (A : Nat → Nat → Prop) : (t : T) → Den t → List Value → Prop
  | .int k, n, cs => cs = [.int k n] ∧ NN k [n]
  | .bool, b, cs => cs = [.bool b]
  | .str, l, cs => cs = [.string ⟨List.toArray l⟩]
  | .arr k n, l, cs => List.length l = n ∧ NN k l ∧ cs = List.map (Value.int k) l
  | .sl k, l, cs => ∃ v, cs = [v] ∧ IsSl w A k none l v
  | .rw (.int k), l, cs => ∃ v, cs = [v] ∧ IsSl w A k none l v
  | .rw t, l, cs => ∃ v, cs = [v] ∧ IsRw w A t.len (Fz w A t) l v
  | .st ts, x, cs => FzL w A ts x cs
def FzL (w : World) (A : Nat → Nat → Prop) : (ts : List T) → DenL ts → List Value → Prop
  | [], _, cs => cs = []
  | t :: ts, x, cs => ∃ c1 c2, cs = c1 ++ c2 ∧ Fz w A t x.1 c1 ∧ FzL w A ts x.2 c2
end
def olen (len : Option Nat) (m off : Nat) : Nat := match len with
  | some n => n
  | none => m - off
def IsRp (c : Cx) (t : T) (x : Den t) (v : Value) : Prop :=
  ∃ (p : Addr) (cs : List Value), v = .pointer (some p) ∧ p.spot = none ∧ Fz c.w c.A t x cs ∧ ∀ j (g : j < cs.length), c.w.cell? ⟨p.block, p.off + j, none⟩ = some cs[j] ∧ ¬ c.A p.block (p.off + j)
def Caps (c : Cx) : List ((t : T) × Den t) → List Value → Prop
  | [], vs => vs = []
  | x :: l, vs => ∃ y r, vs = y :: r ∧ IsRp c x.1 x.2 y ∧ Caps c l r
def leaf (c : Cx) : AV → Value → Prop
  | .dead, v => v.cells = #[v] ∧ (match v with | .agg _ => false | .tuple _ => false | _ => true) = true
  | .int k n, v => v = .int k n ∧ NN k [n]
  | .bool b, v => v = .bool b
  | .str l, v => v = .string ⟨l.toArray⟩
  | .nils, v => v = .slice none 0 0
  | .isl k nl l, v => IsSl c.w c.A k nl l v
  | .rsl k ll, v => ∃ a cap, v = .slice a ll.length cap ∧ ll.length ≤ cap ∧ (a = none → ll = [] ∧ cap = 0) ∧ ∀ p, a = some p → (ll ≠ [] → p.spot = none) ∧
      ∀ i (h : i < ll.length), ∃ x, c.w.cell? ⟨p.block, p.off + i, none⟩ = some x ∧ ¬ c.A p.block (p.off + i) ∧ IsSl c.w c.A k none ll[i] x
  | .own id path off len, v => match c.S[id]?, c.L[id]? with
    | some (.var s), some p => ∃ o n, Sh.at s path = some (o, .ints n) ∧ off + olen len n off ≤ n ∧
        ∃ q : Addr, v = .slice (some q) (olen len n off) (n - off) ∧ (q.block = p.b ∧ q.spot = none) ∧ (off < n → q = ⟨p.b, p.o + o + off, none⟩)
    | some (.row _ nl m), some p => path = [] ∧ off + olen len m off ≤ m ∧ if nl then (∃ a, v = .slice a 0 0) ∧ m = 0
        else ∃ q : Addr, v = .slice (some q) (olen len m off) (p.cap - off) ∧ (q.block = p.b ∧ q.spot = none) ∧ (off < p.cap → q = ⟨p.b, p.o + off, none⟩)
    | some (.gro sz nl m), some p => path = [] ∧ off + olen len m off ≤ m ∧ if nl then (∃ a, v = .slice a 0 0) ∧ m = 0
        else ∃ q : Addr, v = .slice (some q) (olen len m off) (p.cap / sz - off) ∧ (q.block = p.b ∧ q.spot = none) ∧ (off < p.cap / sz → q = ⟨p.b, p.o + sz * off, none⟩)
    | some .dead, _ => ∃ a n m, v = .slice a n m
    | _, _ => False
  | .ptr id path, v => match c.S[id]?, c.L[id]? with
    | some (.var s), some p => ∃ o t, Sh.at s path = some (o, t) ∧ v = .pointer (some ⟨p.b, p.o + o, none⟩)
    | some (.row _ nl m), some p => nl = false ∧ ∃ i, path = [i] ∧ i < m ∧ v = .pointer (some ⟨p.b, p.o + i, none⟩)
    | some (.gro sz nl m), some p => nl = false ∧ ∃ i, path = [i] ∧ i < m ∧ v = .pointer (some ⟨p.b, p.o + sz * i, none⟩)
    | some .dead, _ => ∃ a, v = .pointer (some a)
    | _, _ => False
  | .rpi k n, v => NN k [n] ∧ ∃ p : Addr, v = .pointer (some p) ∧ p.spot = none ∧ c.w.cell? ⟨p.block, p.off, none⟩ = some (.int k n) ∧ ¬ c.A p.block p.off
  | .rps k l, v => ∃ (p : Addr) (x : Value), v = .pointer (some p) ∧ p.spot = none ∧ c.w.cell? ⟨p.block, p.off, none⟩ = some x ∧ ¬ c.A p.block p.off ∧ IsSl c.w c.A k none l x
  | .esl l, v => ∃ a cap, v = .slice a l.length cap ∧ l.length ≤ cap ∧ (a = none → l = [] ∧ cap = 0) ∧ ∀ p, a = some p → (l ≠ [] → p.spot = none) ∧
      ∀ i (h : i < l.length), c.w.cell? ⟨p.block, p.off + i, none⟩ = some (c.eps l[i]) ∧ ¬ c.A p.block (p.off + i)
  | .rpe n, v => ∃ p : Addr, v = .pointer (some p) ∧ p.spot = none ∧ c.w.cell? ⟨p.block, p.off, none⟩ = some (c.eps n) ∧ ¬ c.A p.block p.off
  | .capv id off, v => match c.S[id]?, c.L[id]? with
    | some (.row _ nl _), some p => nl = false ∧ v = .int .i64 ((p.cap - off : Nat) : Int)
    | some .dead, _ => ∃ z, v = .int .i64 z
    | _, _ => False
  | .ownx id off, v => match c.S[id]?, c.L[id]? with
    | some (.row _ nl m), some p => nl = false ∧ off ≤ m ∧ ∃ q : Addr, v = .slice (some q) (p.cap - off) (p.cap - off) ∧ (q.block = p.b ∧ q.spot = none) ∧ (off < p.cap → q = ⟨p.b, p.o + off, none⟩)
    | some .dead, _ => ∃ a n m, v = .slice a n m
    | _, _ => False
  | .asl id n, v => match c.S[id]?, c.L[id]? with
    | some (.var s), some p => s = .agg (List.replicate n .leaf) ∧ v = .slice (some ⟨p.b, p.o, none⟩) n n
    | some .dead, _ => ∃ a n m, v = .slice a n m
    | _, _ => False
  | .ige n, v => ∃ z : Nat, v = .int .i64 z ∧ n ≤ z
  | .emp, v => ∃ a, v = .slice a 0 0
  | .nilp, v => v = .pointer none
  | .err n, v => v = c.eps n
  | .glo g, v => v = .pointer (some ⟨g, 0, none⟩)
  | .fn f, v => v = .func (.func f) #[] #[]
  | .gsl t l, v => IsRw c.w c.A t.len (Fz c.w c.A t) l v
  | .rpg t x, v => IsRp c t x v
  | .cls f l, v => ∃ vs : List Value, v = .func (.func f) #[] vs.toArray ∧ Caps c l vs
  | .ints .., _ => False
  | .agg _, _ => False
  | .tup _, _ => False
mutual
def Cells (c : Cx) : AV → List Value → Prop
  | .ints k n l, cs => l.length = n ∧ NN k l ∧ cs = l.map (Value.int k)
  | .agg l, cs => CellsL c l cs
  | v, cs => ∃ x, cs = [x] ∧ leaf c v x
def CellsL (c : Cx) : List AV → List Value → Prop
  | [], cs => cs = []
  | v :: l, cs => ∃ c1 c2, cs = c1 ++ c2 ∧ Cells c v c1 ∧ CellsL c l c2
end
mutual
def Val (c : Cx) : AV → Value → Prop
  | .dead, _ => True
  | .ints k n l, v => l.length = n ∧ NN k l ∧ v = .agg (l.map (Value.int k)).toArray
  | .agg l, v => ∃ cs, CellsL c l cs ∧ v = .agg cs.toArray
  | .tup l, v => ∃ vs, ValL c l vs ∧ v = .tuple vs.toArray
  | x, v => leaf c x v
def ValL (c : Cx) : List AV → List Value → Prop
  | [], vs => vs = []
  | x :: l, vs => ∃ y r, vs = y :: r ∧ Val c x y ∧ ValL c l r
end
structure Cx.Le (c c' : Cx) : Prop where
  eps : c'.eps = c.eps
  cell : ∀ b o v, c.w.cell? ⟨b, o, none⟩ = some v → ¬ c.A b o → c'.w.cell? ⟨b, o, none⟩ = some v ∧ ¬ c'.A b o
  sh : ∀ (id : Nat) s, c.S[id]? = some s → s ≠ .rsv → (c'.S[id]? = some s ∧ c'.L[id]? = c.L[id]?) ∨ c'.S[id]? = some .dead
theorem Lies.le {c c' : Cx} (h : c.Le c') {k : IntKind} {l : List Int} {a : Addr} (g : Lies c.w c.A k l a) : Lies c'.w c'.A k l a :=
  ⟨g.1, fun i hi => h.cell _ _ _ (g.2 i hi).1 (g.2 i hi).2⟩
theorem IsSl.le {c c' : Cx} (h : c.Le c') {k : IntKind} {nl : Option Bool} {l : List Int} {v : Value} (g : IsSl c.w c.A k nl l v) : IsSl c'.w c'.A k nl l v := by
  obtain ⟨h0, a, cap, h1, h2, h3, h4, h5⟩ := g
  exact ⟨h0, a, cap, h1, h2, h3, h4, fun p hp => (h5 p hp).le h⟩
theorem IsRw.le {c c' : Cx} (h : c.Le c') {α : Type} {n : Nat} {F F' : α → List Value → Prop} {l : List α} {v : Value} (hF : ∀ x cs, F x cs → F' x cs) (g : IsRw c.w c.A n F l v) : IsRw c'.w c'.A n F' l v := by
  obtain ⟨a, cap, h1, h2, h3, h4⟩ := g
  refine ⟨a, cap, h1, h2, h3, fun p hp => ⟨(h4 p hp).1, fun i hi => ?_⟩⟩
  obtain ⟨cs, q1, q2, q3⟩ := (h4 p hp).2 i hi
  exact ⟨cs, hF _ _ q1, q2, fun j hj => h.cell _ _ _ (q3 j hj).1 (q3 j hj).2⟩
mutual
theorem Fz.le {c c' : Cx} (h : c.Le c') : ∀ (t : T) (x : Den t) (cs : List Value), Fz c.w c.A t x cs → Fz c'.w c'.A t x cs
  | .int _, _, _, g => g
  | .bool, _, _, g => g
  | .str, _, _, g => g
  | .arr _ _, _, _, g => g
  | .sl _, _, _, ⟨v, e, g⟩ => ⟨v, e, g.le h⟩
  | .rw (.int _), _, _, ⟨v, e, g⟩ => ⟨v, e, IsSl.le h g⟩
  | .rw .bool, _, _, ⟨v, e, g⟩ => ⟨v, e, g.le h (Fz.le h .bool)⟩
  | .rw .str, _, _, ⟨v, e, g⟩ => ⟨v, e, g.le h (Fz.le h .str)⟩
  | .rw (.arr k n), _, _, ⟨v, e, g⟩ => ⟨v, e, g.le h (Fz.le h (.arr k n))⟩
  | .rw (.sl k), _, _, ⟨v, e, g⟩ => ⟨v, e, g.le h (Fz.le h (.sl k))⟩
  | .rw (.rw t), _, _, ⟨v, e, g⟩ => ⟨v, e, g.le h (Fz.le h (.rw t))⟩
  | .rw (.st ts), _, _, ⟨v, e, g⟩ => ⟨v, e, g.le h (Fz.le h (.st ts))⟩
  | .st ts, x, cs, g => FzL.le h ts x cs g
theorem FzL.le {c c' : Cx} (h : c.Le c') : ∀ (ts : List T) (x : DenL ts) (cs : List Value), FzL c.w c.A ts x cs → FzL c'.w c'.A ts x cs
  | [], _, _, g => g
  | t :: ts, x, _, ⟨c1, c2, e, g1, g2⟩ => ⟨c1, c2, e, Fz.le h t x.1 c1 g1, FzL.le h ts x.2 c2 g2⟩
end
theorem leaf_own {c : Cx} {id off : Nat} {path : List Nat} {len : Option Nat} {v : Value} (h : leaf c (.own id path off len) v) : ∃ a n m, v = .slice a n m := by
  simp only [leaf] at h
  split at h
  · obtain ⟨o, n, _, _, q, rfl, _⟩ := h; exact ⟨_, _, _, rfl⟩
  · obtain ⟨_, _, h⟩ := h
    split at h
    · obtain ⟨⟨a, rfl⟩, _⟩ := h; exact ⟨_, _, _, rfl⟩
    · obtain ⟨q, rfl, _⟩ := h; exact ⟨_, _, _, rfl⟩
  · obtain ⟨_, _, h⟩ := h
    split at h
    · obtain ⟨⟨a, rfl⟩, _⟩ := h; exact ⟨_, _, _, rfl⟩
    · obtain ⟨q, rfl, _⟩ := h; exact ⟨_, _, _, rfl⟩
  · exact h
  · exact h.elim
theorem leaf_ptr {c : Cx} {id : Nat} {path : List Nat} {v : Value} (h : leaf c (.ptr id path) v) : ∃ a, v = .pointer (some a) := by
  simp only [leaf] at h
  split at h
  · obtain ⟨o, n, _, rfl⟩ := h; exact ⟨_, rfl⟩
  · obtain ⟨_, _, _, _, rfl⟩ := h; exact ⟨_, rfl⟩
  · obtain ⟨_, _, _, _, rfl⟩ := h; exact ⟨_, rfl⟩
  · exact h
  · exact h.elim
theorem leaf_capv {c : Cx} {id off : Nat} {v : Value} (h : leaf c (.capv id off) v) : ∃ z, v = .int .i64 z := by
  simp only [leaf] at h
  split at h
  · exact ⟨_, h.2⟩
  · exact h
  · exact h.elim
theorem leaf_ownx {c : Cx} {id off : Nat} {v : Value} (h : leaf c (.ownx id off) v) : ∃ a n m, v = .slice a n m := by
  simp only [leaf] at h
  split at h
  · obtain ⟨_, _, q, rfl, _⟩ := h; exact ⟨_, _, _, rfl⟩
  · exact h
  · exact h.elim
theorem leaf_asl {c : Cx} {id n : Nat} {v : Value} (h : leaf c (.asl id n) v) : ∃ a n m, v = .slice a n m := by
  simp only [leaf] at h
  split at h
  · exact ⟨_, _, _, h.2⟩
  · exact h
  · exact h.elim
theorem IsRp.le {c c' : Cx} (h : c.Le c') {t : T} {x : Den t} {v : Value} (g : IsRp c t x v) : IsRp c' t x v := by
  obtain ⟨p, cs, e, s, q1, q2⟩ := g
  exact ⟨p, cs, e, s, Fz.le h t x cs q1, fun j hj => h.cell _ _ _ (q2 j hj).1 (q2 j hj).2⟩
theorem Caps.le {c c' : Cx} (h : c.Le c') : ∀ (l : List ((t : T) × Den t)) (vs : List Value), Caps c l vs → Caps c' l vs
  | [], _, g => g
  | _ :: l, _, ⟨y, r, e, g1, g2⟩ => ⟨y, r, e, g1.le h, Caps.le h l r g2⟩
theorem leaf.le {c c' : Cx} (h : c.Le c') : ∀ {x : AV} {v : Value}, leaf c x v → leaf c' x v := by
  intro x v g
  cases x with
  | isl k nl l => exact IsSl.le h g
  | rsl k ll =>
    obtain ⟨a, cap, h1, h2, h4, h5⟩ := g
    refine ⟨a, cap, h1, h2, h4, fun p hp => ⟨(h5 p hp).1, fun i hi => ?_⟩⟩
    obtain ⟨y, q1, q2, q3⟩ := (h5 p hp).2 i hi
    obtain ⟨r1, r2⟩ := h.cell _ _ _ q1 q2
    exact ⟨y, r1, r2, q3.le h⟩
  | own id path off len =>
    have g0 := leaf_own g
    simp only [leaf] at g ⊢
    cases hs : c.S[id]? with
    | none => simp [hs] at g
    | some s =>
      by_cases hr : s = .rsv
      · subst hr; simp [hs] at g
      · rcases h.sh id s hs hr with ⟨q1, q2⟩ | q
        · rw [q1, q2]; rw [hs] at g; exact g
        · rw [q]; exact g0
  | ptr id path =>
    have g0 := leaf_ptr g
    simp only [leaf] at g ⊢
    cases hs : c.S[id]? with
    | none => simp [hs] at g
    | some s =>
      by_cases hr : s = .rsv
      · subst hr; simp [hs] at g
      · rcases h.sh id s hs hr with ⟨q1, q2⟩ | q
        · rw [q1, q2]; rw [hs] at g; exact g
        · rw [q]; exact g0
  | capv id off =>
    have g0 := leaf_capv g
    simp only [leaf] at g ⊢
    cases hs : c.S[id]? with
    | none => simp [hs] at g
    | some s =>
      by_cases hr : s = .rsv
      · subst hr; simp [hs] at g
      · rcases h.sh id s hs hr with ⟨q1, q2⟩ | q
        · rw [q1, q2]; rw [hs] at g; exact g
        · rw [q]; exact g0
  | ownx id off =>
    have g0 := leaf_ownx g
    simp only [leaf] at g ⊢
    cases hs : c.S[id]? with
    | none => simp [hs] at g
    | some s =>
      by_cases hr : s = .rsv
      · subst hr; simp [hs] at g
      · rcases h.sh id s hs hr with ⟨q1, q2⟩ | q
        · rw [q1, q2]; rw [hs] at g; exact g
        · rw [q]; exact g0
  | asl id n =>
    have g0 := leaf_asl g
    simp only [leaf] at g ⊢
    cases hs : c.S[id]? with
    | none => simp [hs] at g
    | some s =>
      by_cases hr : s = .rsv
      · subst hr; simp [hs] at g
      · rcases h.sh id s hs hr with ⟨q1, q2⟩ | q
        · rw [q1, q2]; rw [hs] at g; exact g
        · rw [q]; exact g0
  | err n => simp only [leaf] at g ⊢; rw [h.eps]; exact g
  | rpi k n =>
    obtain ⟨h0, p, e, s, q1, q2⟩ := g
    obtain ⟨r1, r2⟩ := h.cell _ _ _ q1 q2
    exact ⟨h0, p, e, s, r1, r2⟩
  | rps k l =>
    obtain ⟨p, x, e, s, q1, q2, q3⟩ := g
    obtain ⟨r1, r2⟩ := h.cell _ _ _ q1 q2
    exact ⟨p, x, e, s, r1, r2, q3.le h⟩
  | esl l =>
    obtain ⟨a, cap, h1, h2, h4, h5⟩ := g
    refine ⟨a, cap, h1, h2, h4, fun p hp => ⟨(h5 p hp).1, fun i hi => ?_⟩⟩
    obtain ⟨q1, q2⟩ := (h5 p hp).2 i hi
    rw [h.eps]
    exact h.cell _ _ _ q1 q2
  | gsl t l => exact IsRw.le h (Fz.le h t) g
  | rpg t x => exact IsRp.le h g
  | cls f l =>
    obtain ⟨vs, e, q⟩ := g
    exact ⟨vs, e, Caps.le h l vs q⟩
  | rpe n =>
    obtain ⟨p, e, s, q1, q2⟩ := g
    obtain ⟨r1, r2⟩ := h.cell _ _ _ q1 q2
    exact ⟨p, e, s, by rw [h.eps]; exact r1, r2⟩
  | _ => exact g
mutual
theorem Cells.le {c c' : Cx} (h : c.Le c') : ∀ (x : AV) (cs : List Value), Cells c x cs → Cells c' x cs
  | .ints _ _ _, _, g => g
  | .agg l, cs, g => CellsL.le h l cs g
  | .dead, _, ⟨y, e, g⟩ | .int .., _, ⟨y, e, g⟩ | .bool _, _, ⟨y, e, g⟩ | .str _, _, ⟨y, e, g⟩ | .tup _, _, ⟨y, e, g⟩ | .nils, _, ⟨y, e, g⟩ | .isl .., _, ⟨y, e, g⟩
  | .rsl .., _, ⟨y, e, g⟩ | .own .., _, ⟨y, e, g⟩ | .ptr .., _, ⟨y, e, g⟩ | .rpi .., _, ⟨y, e, g⟩ | .rps .., _, ⟨y, e, g⟩ | .esl .., _, ⟨y, e, g⟩ | .rpe .., _, ⟨y, e, g⟩ | .capv .., _, ⟨y, e, g⟩ | .ownx .., _, ⟨y, e, g⟩ | .asl .., _, ⟨y, e, g⟩ | .ige .., _, ⟨y, e, g⟩ | .emp, _, ⟨y, e, g⟩ | .nilp, _, ⟨y, e, g⟩ | .err _, _, ⟨y, e, g⟩ | .glo _, _, ⟨y, e, g⟩ | .fn _, _, ⟨y, e, g⟩ | .gsl .., _, ⟨y, e, g⟩ | .rpg .., _, ⟨y, e, g⟩ | .cls .., _, ⟨y, e, g⟩ => ⟨y, e, g.le h⟩
theorem CellsL.le {c c' : Cx} (h : c.Le c') : ∀ (l : List AV) (cs : List Value), CellsL c l cs → CellsL c' l cs
  | [], _, g => g
  | v :: l, _, ⟨c1, c2, e, g1, g2⟩ => ⟨c1, c2, e, Cells.le h v c1 g1, CellsL.le h l c2 g2⟩
end
mutual
theorem Val.le {c c' : Cx} (h : c.Le c') : ∀ (x : AV) (v : Value), Val c x v → Val c' x v
  | .ints _ _ _, _, g => g
  | .agg l, _, ⟨cs, g, e⟩ => ⟨cs, CellsL.le h l cs g, e⟩
  | .tup l, _, ⟨vs, g, e⟩ => ⟨vs, ValL.le h l vs g, e⟩
  | .dead, _, _ => trivial
  | .int a b, _, g => leaf.le (x := .int a b) h g
  | .bool a, _, g => leaf.le (x := .bool a) h g
  | .str a, _, g => leaf.le (x := .str a) h g
  | .nils, _, g => leaf.le (x := .nils) h g
  | .isl a b d, _, g => leaf.le (x := .isl a b d) h g
  | .rsl a b, _, g => leaf.le (x := .rsl a b) h g
  | .own a b d e, _, g => leaf.le (x := .own a b d e) h g
  | .ptr a b, _, g => leaf.le (x := .ptr a b) h g
  | .nilp, _, g => leaf.le (x := .nilp) h g
  | .rpi a b, _, g => leaf.le (x := .rpi a b) h g
  | .rps a b, _, g => leaf.le (x := .rps a b) h g
  | .esl a, _, g => leaf.le (x := .esl a) h g
  | .rpe a, _, g => leaf.le (x := .rpe a) h g
  | .capv a b, _, g => leaf.le (x := .capv a b) h g
  | .ownx a b, _, g => leaf.le (x := .ownx a b) h g
  | .asl a b, _, g => leaf.le (x := .asl a b) h g
  | .ige a, _, g => leaf.le (x := .ige a) h g
  | .emp, _, g => leaf.le (x := .emp) h g
  | .err a, _, g => leaf.le (x := .err a) h g
  | .glo a, _, g => leaf.le (x := .glo a) h g
  | .fn a, _, g => leaf.le (x := .fn a) h g
  | .gsl a b, _, g => leaf.le (x := .gsl a b) h g
  | .rpg a b, _, g => leaf.le (x := .rpg a b) h g
  | .cls a b, _, g => leaf.le (x := .cls a b) h g
theorem ValL.le {c c' : Cx} (h : c.Le c') : ∀ (l : List AV) (vs : List Value), ValL c l vs → ValL c' l vs
  | [], _, g => g
  | x :: l, _, ⟨y, r, e, g1, g2⟩ => ⟨y, r, e, Val.le h x y g1, ValL.le h l r g2⟩
end
end Go.Ev
namespace Go.Ev
structure St where
  t : List AV
  h : List Blk
  deriving Inhabited
structure K (R : Type) where
  nrm : St → Option R
  ext : Nat → St → Option R
  gto : Nat → St → Option R
  ret : St → Option R
def Con : Type 1 := ∀ R : Type, List AV → List Blk → (AV → List Blk → Option R) → Option R
abbrev Kop (R : Type) := AV → List (Nat × Blk) → Option R
structure Gi where
  P : Program
  gt : Nat → Option AV
  con : Nat → Option Con
  /-- Functions that are handed a row to write in. -/
  own : Nat → Bool := fun _ => false
  /-- Is an empty row that is built here one without room, be it nil or not? -/
  weak : Bool := false
  /-- Is the function handed no blocks? -/
  lone : Bool := false
  /-- Are rows that are written down here ones that grow? -/
  gro : Bool := false
  /-- Does what is laid into a new variable stay as it is? -/
  fzb : Bool := false
def und : AV := .tup []
def ofVal : Value → AV
  | .int k n => cond (k.signed || decide (0 ≤ n)) (.int k n) .dead
  | .bool b => .bool b
  | .string s => .str s.data.toList
  | .pointer none => .nilp
  | .slice none 0 0 => .nils
  | .nilIface => .err 0
  | _ => .dead
mutual
def T.beq : T → T → Bool
  | .int k, .int k' => decide (k = k')
  | .bool, .bool => true
  | .str, .str => true
  | .arr k n, .arr k' n' => decide (k = k') && Nat.beq n n'
  | .sl k, .sl k' => decide (k = k')
  | .rw t, .rw t' => T.beq t t'
  | .st l, .st l' => T.beqL l l'
  | _, _ => false
def T.beqL : List T → List T → Bool
  | [], [] => true
  | a :: l, b :: m => T.beq a b && T.beqL l m
  | _, _ => false
end
mutual
theorem T.eq_of_beq : ∀ {a b : T}, T.beq a b = true → a = b
  | .int _, .int _, h => by rw [of_decide_eq_true h]
  | .bool, .bool, _ => rfl
  | .str, .str, _ => rfl
  | .arr _ _, .arr _ _, h => by
    simp only [T.beq, Bool.and_eq_true] at h
    rw [of_decide_eq_true h.1, Nat.eq_of_beq_eq_true h.2]
  | .sl _, .sl _, h => by rw [of_decide_eq_true h]
  | .rw a, .rw b, h => congrArg T.rw (T.eq_of_beq (a := a) (b := b) (by simpa only [T.beq] using h))
  | .st a, .st b, h => congrArg T.st (T.eqL_of_beq (a := a) (b := b) (by simpa only [T.beq] using h))
theorem T.eqL_of_beq : ∀ {a b : List T}, T.beqL a b = true → a = b
  | [], [], _ => rfl
  | _ :: _, _ :: _, h => by
    simp only [T.beqL, Bool.and_eq_true] at h
    rw [T.eq_of_beq h.1, T.eqL_of_beq h.2]
end
def castL (t t' : T) (l : List (Den t)) : Option (List (Den t')) := if h : T.beq t t' = true then some (T.eq_of_beq h ▸ l) else none
def contF (t : T) : AV → Option (List (Den t))
  | .nils => some []
  | .isl k _ l => castL (.int k) t l
  | .rsl k l => castL (.sl k) t l
  | .gsl t' l => castL t' t l
  | _ => none
def dInt (k : IntKind) : AV → Option Int
  | .int k' n => cond (decide (k = k')) (some n) none
  | _ => none
def dBool : AV → Option Bool
  | .bool b => some b
  | _ => none
def dStr : AV → Option (List UInt8)
  | .str l => some l
  | _ => none
def dArr (k : IntKind) (n : Nat) : AV → Option (List Int)
  | .ints k' n' l => cond (decide (k = k') && Nat.beq n n') (some l) none
  | _ => none
def dSl (k : IntKind) : AV → Option (List Int)
  | .nils => some []
  | .isl k' _ l => cond (decide (k = k')) (some l) none
  | _ => none
def AV.parts : AV → Option (List AV)
  | .agg l => some l
  | _ => none
mutual
def decT : (t : T) → AV → Option (Den t)
  | .int k, v => dInt k v
  | .bool, v => dBool v
  | .str, v => dStr v
  | .arr k n, v => dArr k n v
  | .sl k, v => dSl k v
  | .rw t, v => contF t v
  | .st ts, v => match v.parts with
    | some l => decTL ts l
    | none => none
def decTL : (ts : List T) → List AV → Option (DenL ts)
  | [], l => cond l.isEmpty (some ()) none
  | t :: ts, l => match l with
    | v :: l => match decT t v, decTL ts l with
      | some x, some y => some (x, y)
      | _, _ => none
    | [] => none
end
def mapOpt {α β : Type} (f : α → Option β) : List α → Option (List β)
  | [] => some []
  | a :: l => match f a, mapOpt f l with
    | some b, some m => some (b :: m)
    | _, _ => none
def tOf (P : Program) : Nat → TypeId → Option T
  | 0, _ => none
  | d + 1, t => match P.underlying t with
    | some (.int k) => some (.int k)
    | some .bool => some .bool
    | some .string => some .str
    | some (.array n e) => match P.underlying e with
      | some (.int k) => some (.arr k n)
      | _ => none
    | some (.slice e) => match tOf P d e with
      | some (.int k) => some (.sl k)
      | some t => some (.rw t)
      | none => none
    | some (.struct fs) => match mapOpt (tOf P d) (fs.toList.map (·.type)) with
      | some l => some (.st l)
      | none => none
    | _ => none
def T.isInt : T → Bool
  | .int _ => true
  | _ => false
mutual
def decA : AV → Option ((t : T) × Den t)
  | .int k n => some ⟨.int k, (show Den (.int k) from n)⟩
  | .bool b => some ⟨.bool, (show Den .bool from b)⟩
  | .str l => some ⟨.str, (show Den .str from l)⟩
  | .ints k n l => some ⟨.arr k n, (show Den (.arr k n) from l)⟩
  | .isl k _ l => some ⟨.sl k, (show Den (.sl k) from l)⟩
  | .rsl k ll => some ⟨.rw (.sl k), (show Den (.rw (.sl k)) from ll)⟩
  | .gsl t l => cond t.isInt none (some ⟨.rw t, (show Den (.rw t) from l)⟩)
  | .agg l => match decL l with
    | some x => some ⟨.st x.1, (show Den (.st x.1) from x.2)⟩
    | none => none
  | _ => none
def decL : List AV → Option ((ts : List T) × DenL ts)
  | [] => some ⟨[], (show DenL [] from ())⟩
  | v :: l => match decA v, decL l with
    | some a, some b => some ⟨a.1 :: b.1, (show DenL (a.1 :: b.1) from (a.2, b.2))⟩
    | _, _ => none
end
def fldT : (ts : List T) → DenL ts → Nat → Option (Nat × ((t : T) × Den t))
  | [], _, _ => none
  | t :: _, x, 0 => some (0, ⟨t, x.1⟩)
  | t :: ts, x, n + 1 => match fldT ts x.2 n with
    | some (o, y) => some (t.len + o, y)
    | none => none
mutual
def refs : AV → List Nat
  | .agg l => refsL l
  | .tup l => refsL l
  | .own id _ _ _ => [id]
  | .ptr id _ => [id]
  | .capv id _ => [id]
  | .ownx id _ => [id]
  | .asl id _ => [id]
  | .dead | .int .. | .bool _ | .str _ | .ints .. | .nils | .isl .. | .rsl .. | .rpi .. | .rps .. | .esl _ | .rpe _ | .ige _ | .emp | .nilp | .err _ | .glo _ | .fn _ | .gsl .. | .rpg .. | .cls .. => []
def refsL : List AV → List Nat
  | [] => []
  | v :: l => refs v ++ refsL l
end
def oneB : Value → Bool
  | .agg _ => false
  | .tuple _ => false
  | _ => true
def parseL (f : TypeId → List Value → Option (AV × List Value)) : List TypeId → List Value → Option (List AV × List Value)
  | [], cs => some ([], cs)
  | t :: ts, cs => match f t cs with
    | some (v, r) => match parseL f ts r with
      | some (l, r') => some (v :: l, r')
      | none => none
    | none => none
def takeInts (k : IntKind) : Nat → List Value → Option (List Int × List Value)
  | 0, cs => some ([], cs)
  | n + 1, .int k' x :: cs => cond (decide (k = k') && (k.signed || decide (0 ≤ x))) (match takeInts k n cs with
    | some (l, r) => some (x :: l, r)
    | none => none) none
  | _, _ => none
def parse (P : Program) : Nat → TypeId → List Value → Option (AV × List Value)
  | 0, _, _ => none
  | d + 1, t, cs => match P.underlying t with
    | some (.array n e) => match P.underlying e with
      | some (.int k) => match takeInts k n cs with
        | some (l, r) => some (.ints k n l, r)
        | none => none
      | _ => match parseL (parse P d) (List.replicate n e) cs with
        | some (l, r) => some (.agg l, r)
        | none => none
    | some (.struct fs) => match parseL (parse P d) (fs.toList.map (·.type)) cs with
      | some (l, r) => some (.agg l, r)
      | none => none
    | _ => match cs with
      | c :: r => cond (oneB c) (some (ofVal c, r)) none
      | [] => none
def zeroAV (P : Program) (t : TypeId) : Option AV := match P.info? t with
  | some i => match i.zero with
    | some z => match parse P 12 t z.cells.toList with
      | some (v, []) => some v
      | _ => none
    | none => none
  | none => none
def isAg (P : Program) (t : TypeId) : Bool := match P.underlying t with
  | some (.struct _) => true
  | some (.array ..) => true
  | _ => false
def AV.ag : AV → Bool
  | .ints .. => true
  | .agg _ => true
  | _ => false
def szIs (P : Program) (t : TypeId) (n : Nat) : Bool := match P.info? t with
  | some i => Nat.beq i.size n
  | none => false
def fits (P : Program) (t : TypeId) (v : AV) : Bool := (P.underlying t).isSome && (isAg P t == v.ag) && szIs P t (sh v).len
def evO (t : List AV) : Operand → AV
  | .tmp i => t.getD i und
  | .const v => ofVal v
  | .global g => .glo g
  | .func f => .fn f
def cut {α : Type} (len : Option Nat) (off : Nat) (l : List α) : List α := match len with
  | some n => (l.drop off).take n
  | none => l.drop off
def cont (look : Nat → Blk) (k : IntKind) : AV → Option (List Int)
  | .nils => some []
  | .isl k' _ l => cond (decide (k = k')) (some l) none
  | .own id path off len => match look id with
    | .row k' _ l => match path with
      | [] => cond (decide (k = k')) (some (cut len off l)) none
      | _ => none
    | .var t => match getP t path with
      | some (.ints k' _ l) => cond (decide (k = k')) (some (cut len off l)) none
      | _ => none
    | _ => none
  | _ => none
def contL (look : Nat → Blk) (k : IntKind) : List AV → Option (List (List Int))
  | [] => some []
  | v :: l => match cont look k v, contL look k l with
    | some x, some ll => some (x :: ll)
    | _, _ => none
def memN (n : Nat) : List Nat → Bool
  | [] => false
  | m :: l => Nat.beq n m || memN n l
def kills (ids : List Nat) : List (Nat × Blk) := ids.map fun id => (id, Blk.dead)
def contG (look : Nat → Blk) (t : T) : AV → Option (List (Den t))
  | .own id path off len => match look id, path with
    | .gro t' _ l, [] => castL t' t (cut len off l)
    | _, _ => none
  | .asl id n => match look id with
    | .var (.agg l) => match t with
      | .sl k => cond (decide (k = .u8)) (match contL look k l with
        | some ll => cond (Nat.beq ll.length n) (some ll) none
        | none => none) none
      | _ => none
    | _ => none
  | v => contF t v
def aslRefs (look : Nat → Blk) : AV → List Nat
  | .asl id _ => match look id with
    | .var (.agg l) => id :: refsL l
    | _ => []
  | _ => []
def slLen (look : Nat → Blk) : AV → Option Nat
  | .nils => some 0
  | .isl _ _ l => some l.length
  | .rsl _ ll => some ll.length
  | .esl l => some l.length
  | .asl id n => match look id with
    | .var _ => some n
    | _ => none
  | .gsl _ l => some l.length
  | .own id path off len => match look id with
    | .row _ _ l => some (olen len l.length off)
    | .gro _ _ l => some (olen len l.length off)
    | .var t => match getP t path with
      | some (.ints _ n _) => some (olen len n off)
      | _ => none
    | _ => none
  | _ => none
def iand (k : IntKind) (x y : Int) : Int := k.wrap ((BitVec.ofInt k.bits x) &&& (BitVec.ofInt k.bits y)).toNat
def ior (k : IntKind) (x y : Int) : Int := k.wrap ((BitVec.ofInt k.bits x) ||| (BitVec.ofInt k.bits y)).toNat
def ixor (k : IntKind) (x y : Int) : Int := k.wrap ((BitVec.ofInt k.bits x) ^^^ (BitVec.ofInt k.bits y)).toNat
def iandn (k : IntKind) (x y : Int) : Int := k.wrap ((BitVec.ofInt k.bits x) &&& ~~~(BitVec.ofInt k.bits y)).toNat
def ishl (k : IntKind) (x y : Int) : Int := k.wrap (x * 2 ^ (min y.toNat k.bits))
def ishr (k : IntKind) (x y : Int) : Int := x.fdiv (2 ^ (min y.toNat k.bits))
def inot (k : IntKind) (x : Int) : Int := k.wrap ((BitVec.ofInt k.bits (if k.signed then -1 else k.max)) ^^^ (BitVec.ofInt k.bits x)).toNat
def intZero (i : TypeInfo) (k : IntKind) : Bool := match i.zero with
  | some (.int k' n) => decide (k = k') && decide (n = 0)
  | _ => false
def boolZero (i : TypeInfo) : Bool := match i.zero with
  | some (.bool false) => true
  | _ => false
def slZero (i : TypeInfo) : Bool := match i.zero with
  | some (.slice none 0 0) => true
  | _ => false
def AV.boxable : AV → Bool
  | .tup _ => false
  | .dead => false
  | .capv .. => false
  | .ownx .. => false
  | .ige _ => false
  | .emp => false
  | _ => true
def AV.intK (k : IntKind) : AV → Bool
  | .int k' _ => decide (k = k')
  | _ => false
def kindOk : AV → List Nat → AV → Bool
  | .ints k _ _, [_], x => x.intK k
  | .agg l, i :: p, x => match l[i]? with
    | some v => kindOk v p x
    | none => false
  | _, _, _ => true
def eqFit (P : Program) : List Field → Nat → List AV → List AV → Bool
  | [], _, [], [] => true
  | f :: fs, o, .ints k n _ :: a, .ints k' n' _ :: b => (match P.underlying f.type with
    | some (.array m e) => (match P.underlying e with
      | some (.int k'') => !(f.name == "_") && Nat.beq f.offset o && decide (k = k') && decide (k = k'') && Nat.beq n n' && Nat.beq n m && szIs P e 1 && szIs P f.type n
      | _ => false)
    | _ => false) && eqFit P fs (o + n) a b
  | f :: fs, o, .int k _ :: a, .int k' _ :: b => (match P.underlying f.type with
    | some (.int k'') => !(f.name == "_") && Nat.beq f.offset o && decide (k = k') && decide (k = k'')
    | _ => false) && eqFit P fs (o + 1) a b
  | _, _, _, _ => false
def eqVal : List AV → List AV → Bool
  | .ints _ _ l :: a, .ints _ _ l' :: b => (l == l') && eqVal a b
  | .int _ x :: a, .int _ y :: b => (x == y) && eqVal a b
  | _, _ => true
section ops
variable {R : Type} (G : Gi) (look : Nat → Blk) (nid : Nat) (κ : Kop R)
def binE (op : BinOp) (t : TypeId) (x y : AV) : Option R :=
  match x, y with
  | .int k a, .int k' b => match op with
    | .shl => cond (k'.signed && decide (b < 0)) none (κ (.int k (ishl k a b)) [])
    | .shr => cond (k'.signed && decide (b < 0)) none (κ (.int k (ishr k a b)) [])
    | op => cond (decide (k = k')) (match op with
      | .add => κ (.int k (k.wrap (a + b))) []
      | .sub => κ (.int k (k.wrap (a - b))) []
      | .mul => κ (.int k (k.wrap (a * b))) []
      | .quo => cond (decide (b = 0)) none (κ (.int k (k.wrap (a.tdiv b))) [])
      | .rem => cond (decide (b = 0)) none (κ (.int k (a.tmod b)) [])
      | .and => κ (.int k (iand k a b)) []
      | .or => κ (.int k (ior k a b)) []
      | .xor => κ (.int k (ixor k a b)) []
      | .andNot => κ (.int k (iandn k a b)) []
      | .eql => κ (.bool (a == b)) []
      | .neq => κ (.bool (a != b)) []
      | .lss => κ (.bool (decide (a < b))) []
      | .leq => κ (.bool (decide (a ≤ b))) []
      | .gtr => κ (.bool (decide (a > b))) []
      | .geq => κ (.bool (decide (a ≥ b))) []
      | _ => none) none
  | .bool a, .bool b => match op, G.P.underlying t with
    | .eql, some .bool => κ (.bool (a == b)) []
    | .neq, some .bool => κ (.bool (!(a == b))) []
    | _, _ => none
  | .str a, .str b => match op with
    | .eql => κ (.bool (a == b)) []
    | .neq => κ (.bool (!(a == b))) []
    | .add => cond (decide (((a.length + b.length : Nat) : Int) ≤ 9223372036854775807)) (κ (.str (a ++ b)) []) none
    | _ => none
  | .ints k n a, .ints k' n' b => match G.P.underlying t with
    | some (.array m e) => match G.P.underlying e with
      | some (.int k'') => cond (decide (k = k') && decide (k = k'') && Nat.beq n n' && Nat.beq n m && szIs G.P e 1) (match op with
        | .eql => κ (.bool (a == b)) []
        | .neq => κ (.bool (!(a == b))) []
        | _ => none) none
      | _ => none
    | _ => none
  | .isl _ (some nl) _, .nils => match op, G.P.underlying t with
    | .eql, some (.slice _) => κ (.bool nl) []
    | .neq, some (.slice _) => κ (.bool (!nl)) []
    | _, _ => none
  | .agg a, .agg b => match G.P.underlying t with
    | some (.struct fs) => cond (eqFit G.P fs.toList 0 a b && !G.P.stoodInHeld t && !G.P.eqGuardType G.P.depth t) (match op with
      | .eql => κ (.bool (eqVal a b)) []
      | .neq => κ (.bool (!eqVal a b)) []
      | _ => none) none
    | _ => none
  | _, _ => none
def errE (op : BinOp) (t : TypeId) (x y : AV) (xo yo : Operand) : Option R :=
  match x, y, xo, yo, op, G.P.underlying t with
  | .err n, .err 0, _, .const _, .eql, some (.interface _) => κ (.bool (Nat.beq n 0)) []
  | .err n, .err 0, _, .const _, .neq, some (.interface _) => κ (.bool (!Nat.beq n 0)) []
  | _, _, _, _, _, _ => none
def lenxE (x : AV) : Option R := match x with
  | .ownx id off => match look id with
    | .row _ nl l => cond nl none (κ (.ige (l.length - off)) [])
    | _ => none
  | _ => none
def capE (t : TypeId) (x : AV) : Option R := match G.P.underlying t, x with
  | some (.slice _), .own id [] off _ => match look id with
    | .row _ nl _ => cond nl none (κ (.capv id off) [])
    | _ => none
  | some (.slice _), .nils => κ (.int .i64 0) []
  | _, _ => none
def slxE (t : TypeId) (x : AV) (lo hi : Option AV) : Option R := match G.P.underlying t, x, lo, hi with
  | some (.slice e), .own id [] off _, none, some (.capv id' off') => match look id with
    | .row _ nl l => cond (szIs G.P e 1 && Nat.beq id id' && Nat.beq off off' && Nat.ble off l.length) (cond nl none (κ (.ownx id off) [])) none
    | _ => none
  | some (.slice e), .ownx id off, none, some (.int _ h) => match look id with
    | .row _ nl l => cond (szIs G.P e 1) (cond nl none (cond (decide (0 ≤ h)) (cond (decide (h ≤ ((l.length - off : Nat) : Int))) (κ (.own id [] off (some h.toNat)) []) none) none)) none
    | _ => none
  | _, _, _, _ => none
def ixxE (t : TypeId) (x ix : AV) : Option R := match G.P.underlying t, x, ix with
  | some (.slice e), .ownx id off, .int _ i => match look id with
    | .row _ nl l => cond (szIs G.P e 1) (cond nl none (cond (decide (0 ≤ i)) (cond (decide (i < ((l.length - off : Nat) : Int))) (κ (.ptr id [off + i.toNat]) []) none) none)) none
    | _ => none
  | _, _, _ => none
def igeE (op : BinOp) (x y : AV) : Option R := match op, x, y with
  | .lss, .ige n, .int .i64 m => cond (decide (m ≤ (n : Int))) (κ (.bool false) []) none
  | _, _, _ => none
def AV.isX : AV → Bool
  | .ownx .. => true
  | .ige _ => true
  | .capv .. => true
  | _ => false
def optX : Option AV → Bool
  | some x => x.isX
  | none => false
def unE (op : UnOp) (x : AV) : Option R :=
  match op, x with
  | .neg, .int k n => κ (.int k (k.wrap (0 - n))) []
  | .xor, .int k n => κ (.int k (inot k n)) []
  | .not, .bool b => κ (.bool (!b)) []
  | _, _ => none
def toStr (l : List Int) : List UInt8 := l.map fun n => UInt8.ofNat n.toNat
def ofStr (l : List UInt8) : List Int := l.map fun b => (b.toNat : Int)
def convE (src dst : TypeId) (x : AV) : Option R :=
  match G.P.underlying src, G.P.underlying dst, x with
  | some _, some (.int k), .int _ n => κ (.int k (k.wrap n)) []
  | some _, some .string, .str l => κ (.str l) []
  | some (.slice e), some .string, x => match G.P.underlying e with
    | some (.int .u8) => match cont look .u8 x with
      | some l => κ (.str (toStr l)) []
      | none => none
    | _ => none
  | _, _, _ => none
def bytesE (src dst : TypeId) (x : AV) : Option R :=
  match G.P.underlying src, G.P.underlying dst, x with
  | some _, some (.slice e), .str l => match G.P.underlying e with
    | some (.int .u8) => κ (.own nid [] 0 none) [(nid, .row .u8 false (ofStr l))]
    | _ => none
  | _, _, _ => none
def sameE (src dst : TypeId) (x : AV) : Option R := match G.P.underlying dst, x with
  | some (.slice e), .own id [] 0 none => match G.P.underlying e with
    | some (.int .u8) => match look id with
      | .row _ false l => cond (G.lone && (Nat.beq src dst && !l.isEmpty)) (κ (.own id [] 0 none) []) none
      | _ => none
    | _ => none
  | _, _ => none
def AV.isOwn : AV → Bool
  | .own .. => true
  | _ => false
def allocE (t : TypeId) : Option R := match zeroAV G.P t with
  | some v => κ (.ptr nid []) [(nid, .var v)]
  | none => none
def boxE (x : AV) : Option R := cond x.boxable (κ (.ptr nid []) [(nid, .var x)]) none
def boxFE (x : AV) : Option R := match decA x with
  | some y => cond x.boxable (κ (.rpg y.1 y.2) [(nid, .dead)]) none
  | none => none
def fillE (place : Nat → Option (Nat × Nat)) : List (Nat × AV) → AV → Option AV
  | [], v => some v
  | (i, x) :: rest, v => match place i, Sh.at (sh v) [i] with
    | some (off, size), some (o, s) => cond (Nat.beq off o && Nat.beq size s.len && Sh.beq (sh x) s && x.boxable && kindOk v [i] x) (match setP v [i] x with
      | some v' => fillE place rest v'
      | none => none) none
    | _, _ => none
def places (P : Program) : List Field → Option (List (Nat × Nat))
  | [] => some []
  | f :: fs => match P.info? f.type, places P fs with
    | some i, some l => some ((f.offset, i.size) :: l)
    | _, _ => none
def buildE (t : TypeId) (parts : List (Nat × AV)) : Option R := match zeroAV G.P t with
  | none => none
  | some z => match G.P.underlying t with
    | some (.struct fs) => match places G.P fs.toList with
      | some l => match fillE (l[·]?) parts z with
        | some v => cond v.ag (κ v []) none
        | none => none
      | none => none
    | some (.array _ e) => cond (szIs G.P e 1) (match fillE (fun i => some (i, 1)) parts z with
        | some v => cond v.ag (κ v []) none
        | none => none) none
    | _ => none
def setL (k : IntKind) : List (Nat × AV) → List Int → Option (List Int)
  | [], l => some l
  | (i, .int k' x) :: rest, l => cond (decide (k = k') && Nat.blt i l.length) (setL k rest (l.set i x)) none
  | _, _ => none
def rowsL (k : IntKind) : List (Nat × AV) → List (List Int) → Option (List (List Int))
  | [], l => some l
  | (i, .isl k' _ x) :: rest, l => cond (decide (k = k') && Nat.blt i l.length) (rowsL k rest (l.set i x)) none
  | (i, .nils) :: rest, l => cond (Nat.blt i l.length) (rowsL k rest (l.set i [])) none
  | _, _ => none
def AV.isSl : AV → Bool
  | .own .. => true
  | .isl .. => true
  | .nils => true
  | _ => false
def partsL : List (Nat × AV) → List AV → Option (List AV)
  | [], l => some l
  | (i, x) :: rest, l => cond (Nat.blt i l.length && x.isSl) (partsL rest (l.set i x)) none
def errsL : List (Nat × AV) → List Nat → Option (List Nat)
  | [], l => some l
  | (i, .err n) :: rest, l => cond (Nat.blt i l.length) (errsL rest (l.set i n)) none
  | _, _ => none
def ifZero (i : TypeInfo) : Bool := match i.zero with
  | some .nilIface => true
  | _ => false
def zLen (i : TypeInfo) (n : Nat) : Bool := match i.zero with
  | some z => Nat.beq z.cells.size n
  | none => false
def decParts (t : T) : List (Nat × AV) → Nat → Option (List (Den t))
  | [], _ => some []
  | (i, v) :: l, n => cond (Nat.beq i n) (match decT t v, decParts t l (n + 1) with
    | some x, some m => some (x :: m)
    | _, _ => none) none
def inOrder : List (Nat × AV) → Nat → Bool
  | [], _ => true
  | (i, _) :: l, n => Nat.beq i n && inOrder l (n + 1)
def buildGE (t : TypeId) (len : Nat) (parts : List (Nat × AV)) : Option R := match G.P.underlying t with
  | some (.slice e) => match G.P.info? e, tOf G.P 12 e with
    | some i, some te => cond (Nat.beq i.size te.len && Nat.blt 0 te.len && Nat.beq parts.length len && zLen i te.len && Nat.ble (len * te.len) 100000) (match te with
      | .int _ => none
      | .sl k => cond parts.isEmpty (κ (.own nid [] 0 none) [(nid, .gro (.sl k) true [])]) (cond (inOrder parts 0 && !memN nid (refsL (parts.map (·.2)))) (match contL look k (parts.map (·.2)) with
        | some l => κ (.own nid [] 0 none) (kills (refsL (parts.map (·.2))) ++ [(nid, .gro (.sl k) false l)])
        | none => none) none)
      | te => cond parts.isEmpty (κ (.own nid [] 0 none) [(nid, .gro te true [])]) (match decParts te parts 0 with
        | some l => cond G.gro (κ (.own nid [] 0 none) [(nid, .gro te false l)]) (κ (mkRow te l) [])
        | none => none)) none
    | _, _ => none
  | _ => none
def useG (t : TypeId) (parts : List (Nat × AV)) : Bool := match G.P.underlying t with
  | some (.slice e) => match G.P.underlying e with
    | some (.int _) => false
    | some (.interface _) => false
    | some (.slice _) => G.gro || parts.isEmpty
    | _ => true
  | _ => false
def buildSliceE (t : TypeId) (len : Nat) (parts : List (Nat × AV)) : Option R := match G.P.underlying t with
  | some (.slice e) => match G.P.info? e with
    | some i => match G.P.underlying e with
      | some (.int k) => cond (Nat.beq i.size 1 && intZero i k && Nat.ble len 100000) (cond (G.weak && Nat.beq len 0 && parts.isEmpty) (κ (.own nid [] 0 none) [(nid, .row k true [])]) (match setL k parts (List.replicate len 0) with
        | some l => κ (.own nid [] 0 none) [(nid, .row k false l)]
        | none => none)) none
      | some (.slice e') => match G.P.underlying e' with
        | some (.int k) => cond (Nat.beq i.size 1 && slZero i && Nat.ble len 100000) (match rowsL k parts (List.replicate len []) with
          | some l => κ (.rsl k l) []
          | none => match partsL parts (List.replicate len .nils) with
            | some l => κ (.asl nid len) [(nid, .var (.agg l))]
            | none => none) none
        | _ => none
      | some (.interface _) => cond (Nat.beq i.size 1 && ifZero i && Nat.ble len 100000) (match errsL parts (List.replicate len 0) with
        | some l => κ (.esl l) []
        | none => none) none
      | _ => none
    | none => none
  | _ => none
def loadE (t : TypeId) (a : AV) : Option R := match a with
  | .ptr id path => match look id with
    | .var v => match getP v path with
      | some x => cond (fits G.P t x) (κ x []) none
      | none => none
    | .row k _ l => match path with
      | [i] => cond (fits G.P t (.int k 0)) (κ (.int k (l.getD i 0)) []) none
      | _ => none
    | .gro te _ l => match path with
      | [i] => cond (fits G.P t (enc te (l.getD i (dflt te)))) (κ (enc te (l.getD i (dflt te))) []) none
      | _ => none
    | _ => none
  | .rpg te x => cond (fits G.P t (enc te x)) (κ (enc te x) []) none
  | .rpi k n => cond (fits G.P t (.int k n)) (κ (.int k n) []) none
  | .rps k l => cond (fits G.P t .nils) (κ (.isl k none l) []) none
  | .rpe n => cond (fits G.P t (.err n)) (κ (.err n) []) none
  | .glo g => match G.gt g with
    | some v => cond (fits G.P t v) (κ v []) none
    | none => none
  | _ => none
def storeE (t : TypeId) (a x : AV) : Option R := match a with
  | .ptr id path => match look id with
    | .var v => match getP v path, setP v path x with
      | some old, some v' => cond (szIs G.P t (sh x).len && x.boxable && Sh.beq (sh x) (sh old) && kindOk v path x) (κ und [(id, .var v')]) none
      | _, _ => none
    | .row k nl l => match path, x with
      | [i], .int k' z => cond (szIs G.P t 1 && decide (k = k')) (κ und [(id, .row k nl (l.set i z))]) none
      | _, _ => none
    | .gro te nl l => match path, decT te x with
      | [i], some d => cond (szIs G.P t 1 && Nat.beq te.len 1) (κ und [(id, .gro te nl (l.set i d))]) none
      | _, _ => none
    | _ => none
  | _ => none
def nilE (x : AV) : Option R := match x with
  | .ptr .. => κ x []
  | .rpi .. => κ x []
  | .rps .. => κ x []
  | .rpe _ => κ x []
  | .rpg .. => κ x []
  | .glo _ => κ x []
  | _ => none
def fieldAddrE (t : TypeId) (x : AV) (f : Nat) : Option R := match x with
  | .ptr id path => match look id with
    | .var v => match getP v path, G.P.underlying t with
      | some (.agg l), some (.struct fs) => match fs[f]? with
        | some fd => match G.P.info? fd.type with
          | some i => cond (!Nat.beq i.size 0 && Nat.blt f l.length && Nat.beq fd.offset (Sh.lenL ((shL l).take f))) (κ (.ptr id (path ++ [f])) []) none
          | none => none
        | none => none
      | _, _ => none
    | _ => none
  | .rpg (.st ts) x => match G.P.underlying t with
    | some (.struct fs) => match fs[f]? with
      | some fd => match G.P.info? fd.type, fldT ts (show DenL ts from x) f with
        | some i, some (o, y) => cond (!Nat.beq i.size 0 && Nat.beq fd.offset o) (κ (.rpg y.1 y.2) []) none
        | _, _ => none
      | none => none
    | _ => none
  | _ => none
def fieldE (t : TypeId) (x : AV) (f : Nat) : Option R := match x with
  | .agg l => match G.P.underlying t with
    | some (.struct fs) => match fs[f]?, l[f]? with
      | some fd, some v => cond (fits G.P fd.type v && Nat.beq fd.offset (Sh.lenL ((shL l).take f))) (κ v []) none
      | _, _ => none
    | _ => none
  | _ => none
def indexAddrE (t : TypeId) (x ix : AV) : Option R := match ix with
  | .int _ i => match G.P.underlying t with
    | some (.array n e) => match x with
      | .ptr id path => match look id with
        | .var v => match getP v path with
          | some (.ints _ m _) => cond (szIs G.P e 1 && Nat.beq n m) (cond (decide (0 ≤ i)) (cond (decide (i < n)) (κ (.ptr id (path ++ [i.toNat])) []) none) none) none
          | some (.agg l) => cond (szIs G.P e 1 && (Nat.beq n l.length && Nat.beq (Sh.lenL ((shL l).take i.toNat)) i.toNat)) (cond (decide (0 ≤ i)) (cond (decide (i < n)) (κ (.ptr id (path ++ [i.toNat])) []) none) none) none
          | _ => none
        | _ => none
      | .glo g => match G.gt g with
        | some (.ints k m l) => cond (szIs G.P e 1 && Nat.beq n m) (cond (decide (0 ≤ i)) (cond (decide (i < n)) (κ (.rpi k (l.getD i.toNat 0)) []) none) none) none
        | _ => none
      | _ => none
    | some (.slice e) => match x with
      | .isl k _ l => cond (szIs G.P e 1) (cond (decide (0 ≤ i)) (cond (decide (i < l.length)) (κ (.rpi k (l.getD i.toNat 0)) []) none) none) none
      | .rsl k l => cond (szIs G.P e 1) (cond (decide (0 ≤ i)) (cond (decide (i < l.length)) (κ (.rps k (l.getD i.toNat [])) []) none) none) none
      | .esl l => cond (szIs G.P e 1) (cond (decide (0 ≤ i)) (cond (decide (i < l.length)) (κ (.rpe (l.getD i.toNat 0)) []) none) none) none
      | .gsl te l => cond (szIs G.P e te.len) (cond (decide (0 ≤ i)) (cond (decide (i < l.length)) (κ (.rpg te (l.getD i.toNat (dflt te))) []) none) none) none
      | .own id path off len => match look id with
        | .gro te _ l => match path with
          | [] => cond (szIs G.P e te.len) (cond (decide (0 ≤ i)) (cond (decide (i < olen len l.length off)) (κ (.ptr id [off + i.toNat]) []) none) none) none
          | _ => none
        | .row _ _ l => match path with
          | [] => cond (szIs G.P e 1) (cond (decide (0 ≤ i)) (cond (decide (i < olen len l.length off)) (κ (.ptr id [off + i.toNat]) []) none) none) none
          | _ => none
        | .var v => match getP v path with
          | some (.ints _ m _) => cond (szIs G.P e 1) (cond (decide (0 ≤ i)) (cond (decide (i < olen len m off)) (κ (.ptr id (path ++ [off + i.toNat])) []) none) none) none
          | _ => none
        | _ => none
      | _ => none
    | _ => none
  | _ => none
def indexE (t : TypeId) (x ix : AV) : Option R := match ix with
  | .int _ i => match G.P.underlying t, x with
    | some (.array n e), .ints k m l => cond (szIs G.P e 1 && (G.P.underlying e).isSome && !isAg G.P e && Nat.beq n m) (cond (decide (0 ≤ i)) (cond (decide (i < n)) (κ (.int k (l.getD i.toNat 0)) []) none) none) none
    | some .string, .str l => cond (decide (0 ≤ i)) (cond (decide (i < l.length)) (κ (.int .u8 ((l.getD i.toNat 0).toNat)) []) none) none
    | _, _ => none
  | _ => none
def bndE {R : Type} (m : Nat) (len : Nat) (lo hi : Option AV) (κ : Nat → Nat → Option R) : Option R :=
  let lowE (h : Nat) : Option R := match lo with
    | none => κ 0 h
    | some (.int _ l) => cond (decide (0 ≤ l)) (cond (decide (l ≤ h)) (κ l.toNat h) none) none
    | some _ => none
  match hi with
  | none => lowE len
  | some (.int _ h) => cond (decide (0 ≤ h)) (cond (decide (h ≤ m)) (lowE h.toNat) none) none
  | some _ => none
def sliceE (t : TypeId) (x : AV) (lo hi : Option AV) : Option R := match G.P.underlying t, x with
  | some .string, .str l => bndE l.length l.length lo hi fun a b => κ (.str ((l.take b).drop a)) []
  | some (.slice e), .isl k nl l => cond (szIs G.P e 1) (bndE l.length l.length lo hi fun a b => κ (.isl k nl ((l.take b).drop a)) []) none
  | some (.slice e), .nils => cond (szIs G.P e 1) (bndE 0 0 lo hi fun _ _ => κ .nils []) none
  | some (.slice e), .rsl k l => cond (szIs G.P e 1) (bndE l.length l.length lo hi fun a b => κ (.rsl k ((l.take b).drop a)) []) none
  | some (.slice e), .gsl te l => cond (szIs G.P e te.len) (bndE l.length l.length lo hi fun a b => κ (.gsl te ((l.take b).drop a)) []) none
  | some (.slice e), .own id path off len => cond (szIs G.P e 1) (match look id with
    | .row _ _ l => match path with
      | [] => bndE (l.length - off) (olen len l.length off) lo hi fun a b => κ (.own id [] (off + a) (some (b - a))) []
      | _ => none
    | .var v => match getP v path with
      | some (.ints _ m _) => bndE (m - off) (olen len m off) lo hi fun a b => κ (.own id path (off + a) (some (b - a))) []
      | _ => none
    | _ => none) none
  | some (.array n e), .ptr id path => cond (szIs G.P e 1) (match look id with
    | .var v => match getP v path with
      | some (.ints _ m _) => cond (Nat.beq n m) (bndE n n lo hi fun a b => κ (.own id path a (some (b - a))) []) none
      | _ => none
    | _ => none) none
  | some (.pointer u), .ptr id path => match G.P.underlying u with
    | some (.array n e) => cond (szIs G.P e 1) (match look id with
      | .var v => match getP v path with
        | some (.ints _ m _) => cond (Nat.beq n m) (bndE n n lo hi fun a b => κ (.own id path a (some (b - a))) []) none
        | _ => none
      | _ => none) none
    | _ => none
  | some (.array n e), .rpg (.arr k m) l => cond (szIs G.P e 1 && Nat.beq n m) (bndE n n lo hi fun a b => κ (.isl k none (((show List Int from l).take b).drop a)) []) none
  | _, _ => none
def emp3E (t : TypeId) (x : AV) (lo : Option AV) (hi : Option AV) (mx : AV) : Option R := match G.P.underlying t, lo, hi, mx with
  | some (.slice e), none, some (.int _ h), .int _ m => cond (szIs G.P e 1 && decide (h = 0) && decide (m = 0)) (match x with
    | .isl .. => κ .emp []
    | .own .. => κ .emp []
    | .nils => κ .emp []
    | .emp => κ .emp []
    | _ => none) none
  | _, _, _, _ => none
def makeSliceE (t : TypeId) (l c : AV) : Option R := match G.P.underlying t, l, c with
  | some (.slice e), .int _ n, .int _ m => match G.P.underlying e, G.P.info? e with
    | some (.int k), some i => cond (Nat.beq i.size 1 && intZero i k) (cond (decide (0 ≤ IntKind.i64.wrap n)) (cond (decide (IntKind.i64.wrap n ≤ IntKind.i64.wrap m)) (cond (decide ((i.bytes : Int) * IntKind.i64.wrap m ≤ 140737488355328))
        (κ (.own nid [] 0 none) [(nid, .row k false (List.replicate (IntKind.i64.wrap n).toNat 0))]) none) none) none) none
    | some .bool, some i => cond (Nat.beq i.size 1 && boolZero i) (cond (decide (0 ≤ IntKind.i64.wrap n)) (cond (decide (IntKind.i64.wrap n ≤ IntKind.i64.wrap m)) (cond (decide ((i.bytes : Int) * IntKind.i64.wrap m ≤ 140737488355328))
        (κ (.own nid [] 0 none) [(nid, .gro .bool false (List.replicate (IntKind.i64.wrap n).toNat (false : Bool)))]) none) none) none) none
    | _, _ => none
  | _, _, _ => none
def arrPE (arr : TypeId) (x : AV) : Option R := match G.P.underlying arr, x with
  | some (.array n _), .isl k _ l => cond (Nat.blt 0 n && Nat.ble n l.length) (κ (.rpg (.arr k n) (show Den (.arr k n) from l.take n)) []) none
  | _, _ => none
def extractE (x : AV) (i : Nat) : Option R := match x with
  | .tup l => match l[i]? with
    | some v => κ v []
    | none => none
  | _ => none
def lenE (t : TypeId) (x : AV) : Option R := match G.P.underlying t with
  | some .string => match x with
    | .str l => κ (.int .i64 l.length) []
    | _ => none
  | some (.array n _) => κ (.int .i64 n) []
  | some (.slice _) => match slLen look x with
    | some n => κ (.int .i64 n) []
    | none => none
  | _ => none
def minE (x y : AV) : Option R := match x, y with
  | .int k a, .int k' b => cond (decide (k = k')) (κ (.int k (min a b)) []) none
  | _, _ => none
def srcE (k : IntKind) : AV → Option (List Int)
  | .str l => cond (decide (k = .u8)) (some (ofStr l)) none
  | x => cont look k x
def notInt (P : Program) (t : TypeId) : Bool := match P.underlying t with
  | some (.slice _) => true
  | some .string => true
  | _ => false
def appendX (k : IntKind) (i : TypeInfo) (xs : List Int) (d : AV) : Option R := match d with
  | .emp => cond (decide (xs.length * i.bytes ≤ 140737488355328)) (cond (decide (xs.length ≤ 140737488355328)) (κ (.own nid [] 0 none) [(nid, .row k xs.isEmpty xs)]) none) none
  | .nils => cond (decide (xs.length * i.bytes ≤ 140737488355328)) (cond (decide (xs.length ≤ 140737488355328)) (κ (.own nid [] 0 none) [(nid, .row k xs.isEmpty xs)]) none) none
  | .own id path off len => match look id, path with
    | .row k' nl l, [] => cond (decide (k = k')) (
        let old := cut len off l
        cond (decide ((old.length + xs.length) * i.bytes ≤ 140737488355328)) (cond (decide (old.length + xs.length ≤ 140737488355328)) (κ (.own nid [] 0 none) [(id, .dead), (nid, .row k (xs.isEmpty && nl) (old ++ xs))]) none) none) none
    | _, _ => none
  | _ => none
def appendG (te : T) (i : TypeInfo) (xs : List (Den te)) (ks : List Nat) (d : AV) : Option R := match d with
  | .nils => cond (!memN nid ks) (cond (decide (xs.length * i.bytes ≤ 140737488355328)) (cond (decide (xs.length ≤ 140737488355328)) (κ (.own nid [] 0 none) (kills ks ++ [(nid, .gro te xs.isEmpty xs)])) none) none) none
  | .own id path off len => match look id, path with
    | .gro t' nl l, [] => match castL t' te (cut len off l) with
      | some old => cond (!memN id ks && !memN nid ks) (cond (decide ((old.length + xs.length) * i.bytes ≤ 140737488355328)) (cond (decide (old.length + xs.length ≤ 140737488355328)) (κ (.own nid [] 0 none) (kills ks ++ [(id, .dead), (nid, .gro te (xs.isEmpty && nl) (old ++ xs))])) none) none) none
      | none => none
    | _, _ => none
  | _ => none
def appendGE (t tx : TypeId) (d s : AV) : Option R := match G.P.underlying t, G.P.underlying tx with
  | some (.slice e), some (.slice _) => match G.P.info? e, tOf G.P 12 e with
    | some i, some te => cond (Nat.beq i.size te.len && Nat.blt 0 te.len && zLen i te.len) (match contG look te s with
      | some xs => appendG look nid κ te i xs (aslRefs look s) d
      | none => none) none
    | _, _ => none
  | _, _ => none
def elemG (P : Program) (t : TypeId) : Bool := match P.underlying t with
  | some (.slice e) => match P.underlying e with
    | some (.int _) => false
    | _ => true
  | _ => false
def appendE (t tx : TypeId) (d s : AV) : Option R := match G.P.underlying t with
  | some (.slice e) => match G.P.underlying e, G.P.info? e with
    | some (.int k), some i => cond (Nat.beq i.size 1 && intZero i k) (match G.P.underlying tx, s with
      | some (.int _), .int _ n => cond (decide (0 ≤ IntKind.i64.wrap n)) (appendX look nid κ k i (List.replicate (IntKind.i64.wrap n).toNat 0) d) none
      | _, _ => cond (notInt G.P tx) (match srcE look k s with
        | some xs => appendX look nid κ k i xs d
        | none => none) none) none
    | _, _ => none
  | _ => none
def copyE (t : TypeId) (d s : AV) : Option R := match G.P.underlying t with
  | some (.slice e) => match G.P.underlying e with
    | some (.int k) => cond (szIs G.P e 1) (match srcE look k s, d with
      | some xs, .own id path off len => match look id with
        | .row k' nl l => match path with
          | [] => cond (decide (k = k')) (
              let n := min xs.length (olen len l.length off)
              κ (.int .i64 n) [(id, .row k nl (l.take off ++ (xs.take n ++ l.drop (off + n))))]) none
          | _ => none
        | .var v => match getP v path with
          | some (.ints k' m l) => cond (decide (k = k')) (
              let n := min xs.length (olen len m off)
              match setP v path (.ints k m (l.take off ++ (xs.take n ++ l.drop (off + n)))) with
              | some v' => κ (.int .i64 n) [(id, .var v')]
              | none => none) none
          | _ => none
        | _ => none
      | some _, .nils => κ (.int .i64 0) []
      | _, _ => none) none
    | _ => none
  | _ => none
end ops
end Go.Ev
namespace Go.Ev
def pathBeq : List Nat → List Nat → Bool
  | [], [] => true
  | a :: l, b :: m => Nat.beq a b && pathBeq l m
  | _, _ => false
def nodupN : List Nat → Bool
  | [] => true
  | n :: l => !memN n l && nodupN l
def disjN : List Nat → List Nat → Bool
  | [], _ => true
  | n :: l, m => !memN n m && disjN l m
abbrev Ren := Nat → List Nat → Option (Nat × List Nat)
mutual
def trA (look : Nat → Blk) (snap : Bool) (ρ : Ren) : AV → Option AV
  | .agg l => match trL look snap ρ l with
    | some l' => some (.agg l')
    | none => none
  | .tup l => match trL look snap ρ l with
    | some l' => some (.tup l')
    | none => none
  | .own id path off len => match ρ id path with
    | some (j, q) => some (.own j q off len)
    | none => cond snap (match look id with
      | .row k _ _ => match cont look k (.own id path off len) with
        | some l => some (.isl k none l)
        | none => none
      | .gro t _ l => match path with
        | [] => some (mkRow t (cut len off l))
        | _ => none
      | .var v => match getP v path with
        | some (.ints k _ _) => match cont look k (.own id path off len) with
          | some l => some (.isl k none l)
          | none => none
        | _ => none
      | _ => none) none
  | .ptr id path => match ρ id path with
    | some (j, q) => some (.ptr j q)
    | none => none
  | .dead => some .dead
  | .int k n => some (.int k n)
  | .bool b => some (.bool b)
  | .str l => some (.str l)
  | .ints k n l => some (.ints k n l)
  | .nils => some .nils
  | .isl k nl l => some (.isl k nl l)
  | .rsl k l => some (.rsl k l)
  | .rpi k n => some (.rpi k n)
  | .rps k l => some (.rps k l)
  | .esl l => some (.esl l)
  | .rpe n => some (.rpe n)
  | .capv .. => none
  | .ownx .. => none
  | .asl id n => cond snap (match look id with
    | .var (.agg l) => cond ((id :: refsL l).all fun i => (ρ i []).isNone) (match contL look .u8 l with
      | some ll => cond (Nat.beq ll.length n) (some (.rsl .u8 ll)) none
      | none => none) none
    | _ => none) none
  | .ige n => some (.ige n)
  | .emp => some .emp
  | .nilp => some .nilp
  | .err n => some (.err n)
  | .glo n => some (.glo n)
  | .fn n => some (.fn n)
  | .gsl t l => some (.gsl t l)
  | .rpg t x => some (.rpg t x)
  | .cls f l => some (.cls f l)
def trL (look : Nat → Blk) (snap : Bool) (ρ : Ren) : List AV → Option (List AV)
  | [] => some []
  | v :: l => match trA look snap ρ v, trL look snap ρ l with
    | some v', some l' => some (v' :: l')
    | _, _ => none
end
def trB (look : Nat → Blk) (snap : Bool) (ρ : Ren) : Blk → Option Blk
  | .var v => match trA look snap ρ v with
    | some v' => some (.var v')
    | none => none
  | b => some b
mutual
def slf : AV → Bool
  | .agg l => slfL l
  | .tup l => slfL l
  | .isl .. => false
  | .rsl .. => false
  | .rpi .. => false
  | .rps .. => false
  | .esl _ => false
  | .rpe _ => false
  | .gsl .. => false
  | .rpg .. => false
  | .cls .. => false
  | .dead => false
  | .int .. | .bool _ | .str _ | .ints .. | .nils | .own .. | .ptr .. | .capv .. | .ownx .. | .asl .. | .ige _ | .emp | .nilp | .err _ | .glo _ | .fn _ => true
def slfL : List AV → Bool
  | [] => true
  | v :: l => slf v && slfL l
end
mutual
def noRefs : AV → Bool
  | .agg l => noRefsL l
  | .tup l => noRefsL l
  | .own .. => false
  | .ptr .. => false
  | .capv .. => false
  | .ownx .. => false
  | .asl .. => false
  | .dead | .int .. | .bool _ | .str _ | .ints .. | .nils | .isl .. | .rsl .. | .rpi .. | .rps .. | .esl _ | .rpe _ | .ige _ | .emp | .nilp | .err _ | .glo _ | .fn _ | .gsl .. | .rpg .. | .cls .. => true
def noRefsL : List AV → Bool
  | [] => true
  | v :: l => noRefs v && noRefsL l
end
def slfB : Blk → Bool
  | .var v => slf v
  | .gro .. => false
  | _ => true
def refsB : Blk → List Nat
  | .var v => refs v
  | _ => []
def ptrs : List AV → List (Nat × List Nat)
  | [] => []
  | .ptr id path :: l => (id, path) :: ptrs l
  | _ :: l => ptrs l
mutual
def rowIds : AV → List (Nat × List Nat)
  | .agg l => rowIdsL l
  | .own id [] _ _ => [(id, [])]
  | _ => []
def rowIdsL : List AV → List (Nat × List Nat)
  | [] => []
  | v :: l => rowIds v ++ rowIdsL l
end
def entRows (look : Nat → Blk) : List (Nat × List Nat) → List (Nat × List Nat)
  | [] => []
  | (id, path) :: l => (match look id with
    | .var v => match getP v path with
      | some x => rowIds x
      | none => []
    | _ => []) ++ entRows look l
def findE (id : Nat) (path : List Nat) : List (Nat × List Nat) → Nat → Option (Nat × List Nat)
  | [], _ => none
  | (i, p) :: l, j => cond (Nat.beq id i && pathBeq path p) (some (j, [])) (findE id path l (j + 1))
def entBlks (look lookS : Nat → Blk) (ρ : Ren) : List (Nat × List Nat) → Option (List Blk)
  | [] => some []
  | (id, path) :: l => match entBlks look lookS ρ l with
    | none => none
    | some bs => match look id with
      | .var v => match getP v path with
        | some x => match trA lookS true ρ x with
          | some x' => some (.var x' :: bs)
          | none => none
        | none => none
      | .row k nl r => match path with
        | [] => some (.row k nl r :: bs)
        | _ => none
      | .gro t nl r => match path with
        | [] => some (.gro t nl r :: bs)
        | _ => none
      | _ => none
def backE (E : List (Nat × List Nat)) (nid : Nat) : Ren := fun j p => match E[j]? with
  | some (id, path) => some (id, path ++ p)
  | none => some (nid + (j - E.length), p)
def noLook : Nat → Blk := fun _ => .rsv
def backBlks (look : Nat → Blk) (ρ : Ren) : List (Nat × List Nat) → List Blk → Option (List (Nat × Blk))
  | [], _ => some []
  | (id, path) :: l, b :: bs => match backBlks look ρ l bs with
    | none => none
    | some us => match look id, b with
      | .var v, .var x => match trA noLook false ρ x with
        | some x' => match setP v path x' with
          | some v' => cond (x.boxable && kindOk v path x') (some ((id, .var v') :: us)) none
          | none => none
        | none => none
      | _, _ => none
  | _ :: _, [] => none
def newBlks (ρ : Ren) (nid : Nat) : List Blk → Option (List (Nat × Blk))
  | [] => some []
  | b :: bs => match trB noLook false ρ b, newBlks ρ (nid + 1) bs with
    | some b', some us => some ((nid, b') :: us)
    | _, _ => none
def coerce0 (P : Program) (t : TypeId) : AV → AV
  | .nils => match P.underlying t with
    | some (.slice e) => match P.underlying e with
      | some (.int k) => .isl k (some true) []
      | some (.slice e') => match P.underlying e' with
        | some (.int k) => .rsl k []
        | _ => .nils
      | some (.struct _) => match tOf P 12 e with
        | some t => .gsl t []
        | none => .nils
      | some (.array _ _) => match tOf P 12 e with
        | some t => .gsl t []
        | none => .nils
      | _ => .nils
    | _ => .nils
  | v => v
def coerceFs (g : TypeId → AV → AV) : List Field → List AV → List AV
  | f :: fs, v :: l => g f.type v :: coerceFs g fs l
  | _, l => l
def coerceD (P : Program) : Nat → TypeId → AV → AV
  | 0, t, v => coerce0 P t v
  | d + 1, t, v => match v with
    | .agg l => match P.underlying t with
      | some (.struct fs) => .agg (coerceFs (coerceD P d) fs.toList l)
      | _ => .agg l
    | v => coerce0 P t v
def coerce (P : Program) (t : TypeId) (v : AV) : AV := coerceD P 6 t v
def coerceL (P : Program) : List TypeId → List AV → List AV
  | t :: ts, v :: l => coerce P t v :: coerceL P ts l
  | _, l => l
def maxNew : Nat := 4
section
variable {R : Type} (G : Gi)
def aslIds : List AV → List Nat
  | [] => []
  | .asl id _ :: l => id :: aslIds l
  | _ :: l => aslIds l
def snapIds (look : Nat → Blk) (E0 : List (Nat × List Nat)) (eids : List Nat) (args : List AV) : List Nat :=
  (refsL args ++ ((E0.flatMap fun e => refsB (look e.1)) ++ (aslIds args).flatMap fun id => refsB (look id))).filter fun id => !memN id eids
def callE (look : Nat → Blk) (nid : Nat) (κ : Kop R) (f : Nat) (args : List AV) : Option R :=
  match G.con f with
  | none => none
  | some C =>
    let E0 := ptrs args
    let Er := entRows look E0
    let E := E0 ++ Er
    let eids := E.map (·.1)
    let ρ : Ren := fun id path => findE id path E 0
    let sids := snapIds look E0 eids args
    let lookS : Nat → Blk := fun id => cond (memN id sids) (look id) .rsv
    cond (nodupN eids) (match trL lookS true ρ args, entBlks look lookS ρ E with
    | some as, some bs => C R (coerceL G.P (match G.P.funcs[f]? with | some fn => fn.params.toList | none => []) as) bs fun v bs' =>
        let back := backE E0 nid
        match trA noLook false back v, backBlks look back E0 (bs'.take E0.length), newBlks back nid (bs'.drop E0.length) with
        | some v', some us, some ns => cond (Nat.ble ns.length maxNew && Nat.ble E0.length bs'.length)
            (cond (slf v && bs'.all slfB) (κ v' (us ++ (kills (Er.map (·.1)) ++ ns)))
              (κ v' (kills sids ++ (us ++ (kills (Er.map (·.1)) ++ ns))))) none
        | _, _, _ => none
    | _, _ => none) none
def rowOf : List AV → Option Nat
  | [] => none
  | .own id [] _ _ :: _ => some id
  | _ :: l => rowOf l
def callRowE (look : Nat → Blk) (κ : Kop R) (f : Nat) (args : List AV) : Option R :=
  match G.con f, rowOf args with
  | some C, some id => match look id with
    | .row k nl l => match trL noLook false (fun i p => cond (Nat.beq i id) (some (0, p)) none) args with
      | some as => C R (coerceL G.P (match G.P.funcs[f]? with | some fn => fn.params.toList | none => []) as) [.row k nl l] fun v bs' => match bs' with
        | .row k' nl' l' :: _ => cond (decide (k = k') && (nl == nl') && Nat.beq l'.length l.length && noRefs v) (κ v [(id, .row k nl l')]) none
        | _ => none
      | none => none
    | _ => none
  | _, _ => none
def capOf : Blk → Option ((t : T) × Den t)
  | .var (.int k n) => some ⟨.int k, (show Den (.int k) from n)⟩
  | .var (.bool b) => some ⟨.bool, (show Den .bool from b)⟩
  | .var (.isl k _ l) => some ⟨.sl k, (show Den (.sl k) from l)⟩
  | .var .nils => some ⟨.sl .u8, (show Den (.sl .u8) from ([] : List Int))⟩
  | _ => none
def capsOf (look : Nat → Blk) : List AV → Option (List Nat × List ((t : T) × Den t))
  | [] => some ([], [])
  | .ptr id [] :: l => match capOf (look id), capsOf look l with
    | some x, some (ks, xs) => some (id :: ks, x :: xs)
    | _, _ => none
  | _ => none
def makeFuncE (look : Nat → Blk) (κ : Kop R) (f : Nat) (l : List AV) : Option R := match capsOf look l with
  | some (ks, xs) => κ (.cls f xs) (kills ks)
  | none => none
def argT (c : Call) (i : Nat) : TypeId := c.argTypes.getD i 0
def stepE (o : Oper) (t : List AV) (look : Nat → Blk) (nid : Nat) (κ : Kop R) : Option R :=
  match o.op with
  | .move x => κ (evO t x) []
  | .assign x => κ (evO t x) []
  | .pick c a b => match evO t c with
    | .bool x => match evO t a, evO t b with
      | .bool p, .bool q => κ (.bool (cond x p q)) []
      | va, vb => cond x (κ va []) (κ vb [])
    | _ => none
  | .alloc e => allocE G nid κ e
  | .box _ x => cond (G.fzb && (decA (evO t x)).isSome) (boxFE nid κ (evO t x)) (boxE nid κ (evO t x))
  | .build ty parts => buildE G κ ty (parts.toList.map fun p => (p.1, evO t p.2))
  | .buildSlice ty n parts => cond (useG G ty (parts.toList.map fun p => (p.1, evO t p.2))) (buildGE G look nid κ ty n (parts.toList.map fun p => (p.1, evO t p.2))) (buildSliceE G nid κ ty n (parts.toList.map fun p => (p.1, evO t p.2)))
  | .load ty a => loadE G look κ ty (evO t a)
  | .store ty a x => storeE G look κ ty (evO t a) (evO t x)
  | .nilCheck x => nilE κ (evO t x)
  | .binOp op ty x y _ => match evO t x, evO t y with
    | .err n, .err m => errE G κ op ty (.err n) (.err m) x y
    | a, b => cond a.isX (igeE κ op a b) (binE G κ op ty a b)
  | .unOp op _ x => unE κ op (evO t x)
  | .convert src dst x => match G.P.underlying dst with
    | some (.slice _) => cond (evO t x).isOwn (sameE G look κ src dst (evO t x)) (bytesE G nid κ src dst (evO t x))
    | _ => convE G look κ src dst (evO t x)
  | .fieldAddr ty x f => fieldAddrE G look κ ty (evO t x) f
  | .field ty x f => fieldE G κ ty (evO t x) f
  | .indexAddr ty x i => cond (evO t x).isX (ixxE G look κ ty (evO t x) (evO t i)) (indexAddrE G look κ ty (evO t x) (evO t i))
  | .index ty x i => indexE G κ ty (evO t x) (evO t i)
  | .slice ty x lo hi none => cond ((evO t x).isX || optX (hi.map (evO t))) (slxE G look κ ty (evO t x) (lo.map (evO t)) (hi.map (evO t))) (sliceE G look κ ty (evO t x) (lo.map (evO t)) (hi.map (evO t)))
  | .slice ty x lo hi (some mx) => emp3E G κ ty (evO t x) (lo.map (evO t)) (hi.map (evO t)) (evO t mx)
  | .makeSlice ty l c => makeSliceE G nid κ ty (evO t l) (evO t c)
  | .extract x i => extractE κ (evO t x) i
  | .sliceToArrayPointer arr x => arrPE G κ arr (evO t x)
  | .makeFunc (.func f) first captured => cond first.toList.isEmpty (makeFuncE look κ f (captured.toList.map (evO t))) none
  | .call c => match c.callee with
    | .value (.func f) => cond (G.own f && (rowOf (c.args.toList.map (evO t))).isSome) (callRowE G look κ f (c.args.toList.map (evO t))) (callE G look nid κ f (c.args.toList.map (evO t)))
    | .value (.tmp i) => match evO t (.tmp i) with
      | .fn f => callE G look nid κ f (c.args.toList.map (evO t))
      | .cls f l => callE G look nid κ f (c.args.toList.map (evO t) ++ l.map fun x => .rpg x.1 x.2)
      | _ => none
    | .builtin .len => match c.args.toList with
      | [x] => cond (Nat.beq c.argTypes.size 1) (cond (evO t x).isX (cond (match G.P.underlying (argT c 0) with | some (.slice _) => true | _ => false) (lenxE look κ (evO t x)) none) (lenE G look κ (argT c 0) (evO t x))) none
      | _ => none
    | .builtin .min => match c.args.toList with
      | [x, y] => minE κ (evO t x) (evO t y)
      | _ => none
    | .builtin .cap => match c.args.toList with
      | [x] => cond (Nat.beq c.argTypes.size 1) (capE G look κ (argT c 0) (evO t x)) none
      | _ => none
    | .builtin .append => match c.args.toList with
      | [d, s] => cond (Nat.beq c.argTypes.size 2) (cond (elemG G.P (argT c 0)) (appendGE G look nid κ (argT c 0) (argT c 1) (evO t d) (evO t s)) (appendE G look nid κ (argT c 0) (argT c 1) (evO t d) (evO t s))) none
      | _ => none
    | .builtin .copy => match c.args.toList with
      | [d, s] => cond (Nat.beq c.argTypes.size 2) (copyE G look κ (argT c 0) (evO t d) (evO t s)) none
      | _ => none
    | _ => none
  | _ => none
def resv (o : Oper) : Nat := match o.op with
  | .alloc _ | .box .. | .buildSlice .. | .makeSlice .. | .convert .. => 1
  | .call c => match c.callee with
    | .builtin .append => 1
    | .value _ => maxNew
    | _ => 0
  | _ => 0
def resvL : List Oper → Nat
  | [] => 0
  | o :: l => resv o + resvL l
def hAt (h : List Blk) (id : Nat) : Blk := h.getD id .rsv
def applyU : List Blk → List (Nat × Blk) → List Blk
  | h, [] => h
  | h, (id, b) :: us => applyU (h.set id b) us
def putT (t : List AV) (d : Option Nat) (v : AV) : List AV := match d with
  | some d => t.set d v
  | none => t
def seesO (t : List AV) (h : List Blk) (o : Oper) : List Nat :=
  let r := refsL (o.op.operands.toList.map (evO t))
  r ++ r.flatMap fun id => refsB (hAt h id)
structure FP where
  i : Nat
  rd : List Nat
  wr : List Nat
  sr : List Nat
  ks : Bool
def shapeOp (o : Oper) : Bool := match o.op with
  | .move _ | .assign _ | .nilCheck _ => true
  | .fieldAddr .. | .indexAddr .. | .slice .. => true
  | _ => false
def keepsSh (o : Oper) : Bool := match o.op with
  | .store .. => true
  | _ => false
def ksOf (o : Oper) (h : List Blk) (us : List (Nat × Blk)) : Bool := keepsSh o || us.all fun u => match u.2, hAt h u.1 with
  | .var a, .var b => Sh.beq (sh a) (sh b)
  | _, _ => false
def reshaped (fps : List FP) (id : Nat) : Bool := fps.any fun f => !f.ks && memN id f.wr
def fpOk (bits : Nat) (rd wr sr : List Nat) (ks : Bool) : List FP → Bool
  | [] => disjN wr sr
  | f :: fs => (bits.testBit f.i || (disjN f.wr (rd ++ wr) && disjN f.rd wr)) && ((f.ks || disjN f.wr sr) && ((bits.testBit f.i || (ks || disjN wr f.sr)) && fpOk bits rd wr sr ks fs))
def usOk (h : List Blk) (nid top : Nat) : List (Nat × Blk) → Bool
  | [] => true
  | u :: us => ((Nat.ble nid u.1 && Nat.blt u.1 top) || (Nat.blt u.1 nid && match hAt h u.1 with | .rsv => false | _ => true)) && usOk h nid top us
def rdO (t : List AV) (h : List Blk) (fps : List FP) (o : Oper) : List Nat := cond (shapeOp o) ((seesO t h o).filter (reshaped fps)) (seesO t h o)
def srO (t : List AV) (h : List Blk) (fps : List FP) (o : Oper) : List Nat := cond (shapeOp o) ((seesO t h o).filter fun id => !reshaped fps id) []
def restr (h : List Blk) (ids : List Nat) : Nat → Blk := fun id => cond (memN id ids) (hAt h id) .rsv
def evOps (ops : Array Oper) (draw : Bool) (bef : Array Nat) : List Oper → Nat → Nat → List FP → (St → Option R) → St → Option R
  | [], _, _, _, K, st => K st
  | o :: rest, i, nid, fps, K, st =>
    let rd := cond draw (rdO st.t st.h fps o) []
    let sr := cond draw (srO st.t st.h fps o) []
    let go : St → Option R := fun st => stepE G o st.t (cond draw (restr st.h (rd ++ sr)) (hAt st.h)) nid fun v us =>
      cond (usOk st.h nid (nid + resv o) us && cond draw (fpOk (bef.getD i 0) rd (us.map (·.1)) sr (ksOf o st.h us) fps) true)
        (evOps ops draw bef rest (i + 1) (nid + resv o) (⟨i, rd, us.map (·.1), sr, ksOf o st.h us⟩ :: fps) K ⟨putT st.t o.dst v, applyU st.h us⟩) none
    let skip : St → Option R := fun st => evOps ops draw bef rest (i + 1) (nid + resv o) (⟨i, [], [], [], true⟩ :: fps) K ⟨putT st.t o.dst und, st.h⟩
    match o.guard with
    | none => go st
    | some (j, want) => match (ops[j]?).bind (·.dst) with
      | some d => match st.t.getD d und with
        | .bool b => cond b (cond want (go ⟨st.t.set d (.bool true), st.h⟩) (skip ⟨st.t.set d (.bool true), st.h⟩))
            (cond want (skip ⟨st.t.set d (.bool false), st.h⟩) (go ⟨st.t.set d (.bool false), st.h⟩))
        | .tup [] => skip st
        | _ => none
      | none => none
structure Mv where
  t : Nat
  c : Nat
  k : T
  /-- A row in a variable that the temporary points at. -/
  p : Option (List Nat) := none
inductive Pre where
  | lift (t : Nat) (p : List Nat) (k : T)
  | frz (t : Nat) (k : T)
def rowNew : T → Blk
  | .int k => .row k true []
  | .bool => .gro .bool true []
  | .str => .gro .str true []
  | .arr k n => cond (Nat.blt 0 n) (.gro (.arr k n) true []) .dead
  | .sl k => .gro (.sl k) true []
  | .rw t => .gro (.rw t) true []
  | .st ts => cond (Nat.blt 0 (T.lenL ts)) (.gro (.st ts) true []) .dead
def frzE (look : Nat → Blk) : T → AV → Option AV
  | .int k, v => match cont look k v with
    | some l => some (.isl k none l)
    | none => none
  | t, v => match contG look t v with
    | some l => some (mkRow t l)
    | none => none
structure Ann where
  live : List Nat
  mv : List Mv
  size : Nat
  pre : List Pre := []
def pre1 : Pre → St → St
  | .lift t p k, st => match st.t.getD t und with
    | .ptr id q => match hAt st.h id with
      | .var v => match getP v (q ++ p) with
        | some .nils => match setP v (q ++ p) (.own st.h.length [] 0 none) with
          | some v' => ⟨st.t, st.h.set id (.var v') ++ [rowNew k]⟩
          | none => st
        | _ => st
      | _ => st
    | _ => st
  | .frz t k, st => match st.t.getD t und with
    | .nils => ⟨st.t.set t (mkRow k []), st.h⟩
    | .own id path off len => match frzE (hAt st.h) k (.own id path off len) with
      | some v => ⟨st.t.set t v, st.h.set id .dead⟩
      | none => st
    | _ => st
def preL : List Pre → St → St
  | [], st => st
  | p :: ps, st => preL ps (pre1 p st)
def findMv (c : Nat) : List Mv → Option Mv
  | [] => none
  | m :: l => cond (Nat.beq m.c c) (some m) (findMv c l)
def findMvT (t : Nat) : List Mv → Option Mv
  | [] => none
  | m :: l => cond (Nat.beq m.t t && m.p.isNone) (some m) (findMvT t l)
def srcOf (h : List Blk) (t : List AV) (mv : List Mv) (c : Nat) : Option (Nat ⊕ T) := match findMv c mv with
  | none => some (.inl c)
  | some m => match m.p with
    | none => match t.getD m.t und with
      | .own id [] _ _ => some (.inl id)
      | .ptr id [] => some (.inl id)
      | .nils => some (.inr m.k)
      | _ => none
    | some p => match t.getD m.t und with
      | .ptr id q => match hAt h id with
        | .var v => match getP v (q ++ p) with
          | some (.own id2 [] _ _) => some (.inl id2)
          | _ => none
        | _ => none
      | _ => none
def srcs (h : List Blk) (t : List AV) (mv : List Mv) : Nat → Nat → Option (List (Nat ⊕ T))
  | 0, _ => some []
  | n + 1, c => match srcOf h t mv c, srcs h t mv n (c + 1) with
    | some s, some l => some (s :: l)
    | _, _ => none
def srcIds : List (Nat ⊕ T) → List Nat
  | [] => []
  | .inl i :: l => i :: srcIds l
  | .inr _ :: l => srcIds l
def findS (id : Nat) : List (Nat ⊕ T) → Nat → Option Nat
  | [], _ => none
  | .inl i :: l, c => cond (Nat.beq id i) (some c) (findS id l (c + 1))
  | .inr _ :: l, c => findS id l (c + 1)
def srcBlks (h : List Blk) (ρ : Ren) : List (Nat ⊕ T) → List Blk
  | [] => []
  | .inl i :: l => (match trB noLook false ρ (hAt h i) with | some b => b | none => .dead) :: srcBlks h ρ l
  | .inr k :: l => rowNew k :: srcBlks h ρ l
def normT (live : List Nat) (mv : List Mv) (ρ : Ren) : List AV → Nat → List AV
  | [], _ => []
  | v :: l, i => (cond (memN i live) (match findMvT i mv, v with
      | some m, .nils => .own m.c [] 0 none
      | _, v => match trA noLook false ρ v with | some v' => v' | none => .dead) .dead) :: normT live mv ρ l (i + 1)
def norm0 (np : Nat) (a : Ann) (st : St) : Option St := match srcs st.h st.t a.mv a.size 0 with
  | none => none
  | some ss => cond (nodupN (srcIds ss) && Nat.ble np a.size && a.mv.all fun m => Nat.ble np m.c && Nat.blt m.c a.size && match findMv m.c a.mv with | some m' => Nat.beq m'.t m.t && (m'.p.isNone == m.p.isNone) | none => false) (
      let ρ : Ren := fun id p => match findS id ss 0 with | some c => some (c, p) | none => none
      some ⟨normT a.live a.mv ρ st.t 0, srcBlks st.h ρ ss⟩) none
def norm (np : Nat) (a : Ann) (st : St) : Option St := norm0 np a (preL a.pre st)
def evR (ops : Array Oper) (draw : Bool) (K : St → Option R) (st : St) : Option R :=
  cond (draw && !Region.lexB .any ops) none
    (evOps G ops draw (cond draw (Region.before ops) #[]) ops.toList 0 st.h.length [] K ⟨st.t, st.h ++ List.replicate (resvL ops.toList) .rsv⟩)
def firstR : Code → Nat
  | .region id _ _ => id
  | .seq a _ => firstR a
  | .block _ b => firstR b
  | .loop b => firstR b
  | .cond _ a _ => firstR a
  | .scope b => firstR b
  | _ => 1000000
structure Anns where
  loop : Nat → Option Ann
  label : Nat → Option Ann
  /-- Are new rows and variables handed back as they are? -/
  fresh : Bool := false
  /-- Loops that are carried out round by round, so often at most. -/
  fuel : Nat → Option Nat := fun _ => none
  /-- What is done ahead of the return. -/
  pre : List Pre := []
def loopN (body : K R → St → Option R) (k : K R) (nm : St → Option St) : Nat → St → Option R
  | 0, _ => none
  | n + 1, st => body { k with nrm := fun st => match nm st with | some st => loopN body k nm n st | none => none } st
def hasL : Code → Nat → Bool
  | .seq a b, l => hasL a l || hasL b l
  | .label l', l => Nat.beq l' l
  | _, _ => false
def gotoK (has : Nat → Bool) (nm : Nat → St → Option St) (k : K R) (J : Nat → St → Option R) (l : Nat) (st : St) : Option R := cond (has l) (match nm l st with
    | some st => J l st
    | none => none) (k.gto l st)
def jumpN (body : Nat → K R → St → Option R) (has : Nat → Bool) (k : K R) (nm : Nat → St → Option St) : Nat → Nat → St → Option R
  | 0, _, _ => none
  | n + 1, l, st => body l { k with gto := gotoK has nm k (jumpN body has k nm n) } st
def nmOf (np : Nat) (a : Option Ann) (st : St) : Option St := match a with
  | some a => norm np a st
  | none => some st
def evC (A : Anns) (np n : Nat) : Code → Option Nat → K R → St → Option R
  | .seq a b, none, k, st => evC A np n a none { k with nrm := evC A np n b none k } st
  | .seq a b, some l, k, st => cond (hasL a l) (evC A np n a (some l) { k with nrm := evC A np n b none k } st) (evC A np n b (some l) k st)
  | .label l', some l, k, st => cond (Nat.beq l' l) (k.nrm st) none
  | .skip, none, k, st => k.nrm st
  | .label _, none, k, st => k.nrm st
  | .region _ ops draw, none, k, st => evR G ops draw k.nrm st
  | .cond c a b, none, k, st => match evO st.t c with
    | .bool t => cond t (evC A np n a none k st) (evC A np n b none k st)
    | _ => none
  | .block id b, none, k, st => evC A np n b none { k with ext := fun i st => cond (Nat.beq i id) (k.nrm st) (k.ext i st) } st
  | .loop b, none, k, st => match nmOf np (A.loop (firstR b)) st with
    | some st => loopN (evC A np n b none) k (nmOf np (A.loop (firstR b))) (match A.fuel (firstR b) with | some m => m | none => n) st
    | none => none
  | .exit id, none, k, st => k.ext id st
  | .goto l, none, k, st => k.gto l st
  | .scope b, none, k, st => evC A np n b none { k with gto := gotoK (hasL b) (fun l => nmOf np (A.label l)) k (jumpN (fun l => evC A np n b (some l)) (hasL b) k (fun l => nmOf np (A.label l)) n) } st
  | .ret, none, k, st => k.ret st
  | _, _, _, _ => none
def resV (st : St) : ResultVar → Option AV
  | .tmp i => some (st.t.getD i und)
  | .cell a t => match st.t.getD a und with
    | .ptr id path => match hAt st.h id with
      | .var v => match getP v path with
        | some x => cond (fits G.P t x) (some x) none
        | none => none
      | _ => none
    | _ => none
def resL (_fn : Func) (st : St) : List ResultVar → Option (List AV)
  | [] => some []
  | r :: l => match resV G st r, resL _fn st l with
    | some v, some vs => some (v :: vs)
    | _, _ => none
def coerceR (P : Program) (fresh : Bool) (fn : Func) (l : List AV) : List AV := coerceL P (cond fresh [] fn.resultTypes.toList) l
def pinsOk : List Blk → List Blk → Bool
  | [], _ => true
  | .var v :: l, .var x :: m => Sh.beq (sh x) (sh v) && pinsOk l m
  | .var _ :: _, _ => false
  | _ :: l, _ :: m => pinsOk l m
  | _ :: _, [] => false
def dedupN : List Nat → List Nat
  | [] => []
  | a :: l => cond (memN a l) (dedupN l) (a :: dedupN l)
def reach (h : List Blk) (vs : List AV) : List Nat := let r := refsL vs; dedupN (r ++ r.flatMap fun id => refsB (hAt h id))
def retE (fresh : Bool) (fn : Func) (ps0 : List Blk) (κ : AV → List Blk → Option R) (st : St) : Option R :=
  match resL G fn st fn.results.toList with
  | none => none
  | some vs =>
    let np := ps0.length
    let ps := st.h.take np
    let E := (List.range np).map fun i => (i, ([] : List Nat))
    let news0 := (ps.flatMap fun b => match b with | .var v => rowIds v | _ => []).filter fun e => !Nat.blt e.1 np
    let news := cond fresh (news0 ++ ((reach st.h vs).filter fun i => !Nat.blt i np && !memN i (news0.map (·.1))).map fun i => (i, [])) news0
    let E' := E ++ news
    let ρ : Ren := fun id path => match findE id [] E' 0 with | some (j, _) => some (j, path) | none => none
    cond (nodupN (E'.map (·.1))) (match trL (hAt st.h) true ρ (coerceR G.P fresh fn vs) with
    | none => none
    | some vs' =>
      let bs := E'.map fun e => match trB (hAt st.h) true ρ (hAt st.h e.1) with | some b => b | none => .dead
      cond (pinsOk ps0 bs) (κ (match vs' with | [v] => v | vs' => .tup vs') bs) none) none
def noK : St → Option R := fun _ => none
def evF (A : Anns) (n : Nat) (fn : Func) (args : List AV) (bs : List Blk) (κ : AV → List Blk → Option R) : Option R :=
  match fn.body with
  | none => none
  | some c => cond (!G.lone || bs.isEmpty) (evC G A bs.length n c none { nrm := fun st => retE G A.fresh fn bs κ (preL A.pre st), ext := fun _ => noK, gto := fun _ => noK, ret := fun st => retE G A.fresh fn bs κ (preL A.pre st) }
      ⟨args ++ List.replicate (fn.ntmps - args.length) und, bs⟩) none
end
end Go.Ev
namespace Go.Ev
def clean (n : Nat) (f : Nat × Nat) : Prop := f.1 = f.2 ∨ n ≤ f.1
structure Step (A : Nat → Nat → Prop) (w w' : World) : Prop where
  os : w'.os = w.os
  tape : w'.tape = w.tape
  output : w'.output = w.output
  size : w.heap.size ≤ w'.heap.size
  blk : ∀ b, b < w.heap.size → w'.heap[b]? = w.heap[b]? ∨ ∃ c c' e f, w.heap[b]? = some (.cells c e f) ∧ w'.heap[b]? = some (.cells c' e f) ∧
    c'.size = c.size ∧ ∀ o, ¬ A b o → c'[o]? = c[o]?
  cln : ∀ b c e f, w.heap.size ≤ b → w'.heap[b]? = some (.cells c e f) → clean c.size f
theorem cln_none (w : World) : ∀ b c e f, w.heap.size ≤ b → w.heap[b]? = some (.cells c e f) → clean c.size f := fun b c e f h q => by
  rw [Array.getElem?_eq_none h] at q; cases q
theorem cln_trans {u v w : World} {M : Nat → Nat → Prop} (h : ∀ b c e f, u.heap.size ≤ b → v.heap[b]? = some (.cells c e f) → clean c.size f) (k : ∀ b c e f, v.heap.size ≤ b → w.heap[b]? = some (.cells c e f) → clean c.size f)
    (kb : ∀ b, b < v.heap.size → w.heap[b]? = v.heap[b]? ∨ ∃ c c' e f, v.heap[b]? = some (.cells c e f) ∧ w.heap[b]? = some (.cells c' e f) ∧ c'.size = c.size ∧ ∀ o, ¬ M b o → c'[o]? = c[o]?) :
    ∀ b c e f, u.heap.size ≤ b → w.heap[b]? = some (.cells c e f) → clean c.size f := fun b c e f hb q => by
  rcases Nat.lt_or_ge b v.heap.size with r | r
  · rcases kb b r with e1 | ⟨d, d', e', f', q1, q2, q3, _⟩
    · exact h b c e f hb (e1 ▸ q)
    · rw [q2] at q
      simp only [Option.some.injEq, Obj.cells.injEq] at q
      obtain ⟨rfl, rfl, rfl⟩ := q
      rw [q3]
      exact h b d _ _ hb q1
  · exact k b c e f r q
theorem Step.refl (A : Nat → Nat → Prop) (w : World) : Step A w w := ⟨rfl, rfl, rfl, Nat.le_refl _, fun _ _ => .inl rfl, cln_none w⟩
theorem Step.trans {A : Nat → Nat → Prop} {u v w : World} (h : Step A u v) (k : Step A v w) : Step A u w := by
  refine ⟨k.os.trans h.os, k.tape.trans h.tape, k.output.trans h.output, Nat.le_trans h.size k.size, fun b hb => ?_, cln_trans h.cln k.cln k.blk⟩
  rcases h.blk b hb with h1 | ⟨c, c', e, f, h1, h2, h3, h4⟩
  · rcases k.blk b (Nat.lt_of_lt_of_le hb h.size) with k1 | ⟨c, c', e, f, k1, k2, k3, k4⟩
    · exact .inl (k1.trans h1)
    · exact .inr ⟨c, c', e, f, h1 ▸ k1, k2, k3, k4⟩
  · rcases k.blk b (Nat.lt_of_lt_of_le hb h.size) with k1 | ⟨d, d', e', f', k1, k2, k3, k4⟩
    · exact .inr ⟨c, c', e, f, h1, k1.trans h2, h3, h4⟩
    · rw [h2] at k1
      simp only [Option.some.injEq, Obj.cells.injEq] at k1
      obtain ⟨rfl, rfl, rfl⟩ := k1
      exact .inr ⟨c, d', e, f, h1, k2, k3.trans h3, fun o ho => (k4 o ho).trans (h4 o ho)⟩
theorem Step.mono {A B : Nat → Nat → Prop} {w w' : World} (h : Step A w w') (hb : ∀ b o, b < w.heap.size → A b o → B b o) : Step B w w' :=
  ⟨h.os, h.tape, h.output, h.size, fun b hlt => (h.blk b hlt).imp id fun ⟨c, c', e, f, h1, h2, h3, h4⟩ => ⟨c, c', e, f, h1, h2, h3, fun o ho => h4 o fun ha => ho (hb b o hlt ha)⟩, h.cln⟩
theorem Step.alloc (A : Nat → Nat → Prop) (w : World) (o : Obj) (hcl : ∀ c e f, o = .cells c e f → clean c.size f) : Step A w (w.alloc o) :=
  ⟨rfl, rfl, rfl, by simp, fun b hb => .inl (by show (w.heap.push o)[b]? = _; rw [Array.getElem?_push, if_neg (by omega)]), fun b c e f hb q => by
    have q' : (w.heap.push o)[b]? = some (.cells c e f) := q
    rw [Array.getElem?_push] at q'
    split at q'
    · exact hcl c e f (Option.some.inj q')
    · rw [Array.getElem?_eq_none hb] at q'; cases q'⟩
theorem Step.drew (A : Nat → Nat → Prop) (w : World) (n : Nat) : Step A w { w with drawn := n } := ⟨rfl, rfl, rfl, Nat.le_refl _, fun _ _ => .inl rfl, cln_none w⟩
theorem Step.setCell {A : Nat → Nat → Prop} (w : World) (a : Addr) (v : Value) (h : A a.block a.off) : Step A w (w.setCell a v) := by
  refine ⟨rfl, rfl, rfl, by simp, fun b hb => ?_, fun b c e f hb q => by
    rw [Array.getElem?_eq_none (by simpa using hb)] at q; cases q⟩
  simp only [World.setCell, Array.getElem?_modify]
  by_cases hab : a.block = b
  · subst hab
    simp only [if_true]
    cases hh : w.heap[a.block]? with
    | none => exact .inl rfl
    | some x =>
      cases x with
      | cells c e f =>
        refine .inr ⟨c, _, e, f, rfl, rfl, ?_, fun o ho => ?_⟩
        · split <;> simp
        · split
          · rfl
          · rw [Array.getElem?_setIfInBounds_ne]
            rintro rfl; exact ho h
      | _ => exact .inl rfl
  · rw [if_neg hab]; exact .inl rfl
theorem Step.cell {A : Nat → Nat → Prop} {w w' : World} (h : Step A w w') {b o : Nat} (hb : b < w.heap.size) (ho : ¬ A b o) : w'.cell? ⟨b, o, none⟩ = w.cell? ⟨b, o, none⟩ := by
  unfold World.cell?
  rcases h.blk b hb with h1 | ⟨c, c', e, f, h1, h2, h3, h4⟩
  · simp only [h1]
  · simp only [h1, h2]; simpa using h4 o ho
theorem Step.frozen {A : Nat → Nat → Prop} {w w' : World} (h : Step A w w') {b o : Nat} (hb : b < w.heap.size) : w'.frozen? ⟨b, o, none⟩ = w.frozen? ⟨b, o, none⟩ := by
  unfold World.frozen?
  rcases h.blk b hb with h1 | ⟨c, c', e, f, h1, h2, h3, h4⟩
  · simp only [h1]
  · simp only [h1, h2]
theorem Step.some {A : Nat → Nat → Prop} {w w' : World} (h : Step A w w') {b o : Nat} {x : Value} (hx : w.cell? ⟨b, o, none⟩ = some x) : ∃ y, w'.cell? ⟨b, o, none⟩ = some y := by
  have hb := World.block_lt_of_cell? w _ hx
  unfold World.cell? at hx ⊢
  rcases h.blk b hb with h1 | ⟨c, c', e, f, h1, h2, h3, h4⟩
  · exact ⟨x, by simpa only [h1] using hx⟩
  · simp only [h1] at hx
    simp only [h2]
    have : o < c.size := by
      rcases Nat.lt_or_ge o c.size with q | q
      · exact q
      · simp [Array.getElem?_eq_none q] at hx
    exact ⟨c'[o]'(by omega), by simp⟩
structure Fx where
  G : Gi
  eps : Nat → Value
  O : Nat → Nat → Prop
  pin : Nat → Nat → Prop
  w0 : World
def Fx.av (X : Fx) (S : List BSh) (L : List Loc) : Nat → Nat → Prop := fun b o => X.O b o ∨ own S L b o
def cx (X : Fx) (h : List Blk) (L : List Loc) (w : World) : Cx := ⟨X.eps, w, X.av (h.map Blk.sh) L, h.map Blk.sh, L⟩
def BlkOK (c : Cx) : Blk → Loc → Prop
  | .rsv, _ => True
  | .dead, _ => True
  | .var v, p => ∃ cs, Cells c v cs ∧ ∀ i (h : i < cs.length), c.w.cell? ⟨p.b, p.o + i, none⟩ = some cs[i] ∧ c.w.frozen? ⟨p.b, p.o + i, none⟩ = false
  | .row k nl l, p => NN k l ∧ (nl = true → l = []) ∧ (nl = false → l.length ≤ p.cap ∧ (∀ i (h : i < l.length), c.w.cell? ⟨p.b, p.o + i, none⟩ = some (.int k l[i])) ∧
      ∀ i, i < p.cap → (∃ x, c.w.cell? ⟨p.b, p.o + i, none⟩ = some x) ∧ c.w.frozen? ⟨p.b, p.o + i, none⟩ = false)
  | .gro t nl l, p => 0 < t.len ∧ (nl = true → l = []) ∧ (nl = false → l.length ≤ p.cap / t.len ∧ (∀ i (h : i < l.length), ∃ cs, Fz c.w c.A t l[i] cs ∧ ∀ j (g : j < cs.length), c.w.cell? ⟨p.b, p.o + t.len * i + j, none⟩ = some cs[j]) ∧
      ∀ i, i < p.cap → (∃ x, c.w.cell? ⟨p.b, p.o + i, none⟩ = some x) ∧ c.w.frozen? ⟨p.b, p.o + i, none⟩ = false)
def errT (P : Program) : TypeId := ((List.range P.types.size).find? fun t => P.typeName? 3 t == some "*errors.errorString").getD 0
structure EpsOk (P : Program) (eps : Nat → Value) (gt : Nat → Option AV) (w0 : World) : Prop where
  zero : eps 0 = .nilIface
  ptr : ∀ n, n ≠ 0 → ∃ a : Addr, eps n = .iface (errT P) (.pointer (some a))
  inj : ∀ n m, eps n = eps m → n = m
  blk : ∀ g n, gt g = some (.err n) → n ≠ 0 → ∃ (a : Addr) (c : Array Value) (t : TypeId), eps n = .iface (errT P) (.pointer (some a)) ∧ w0.heap[a.block]? = some (.cells c t (0, 0))
theorem EpsOk.w {P : Program} {eps : Nat → Value} {gt : Nat → Option AV} {w0 : World} (h : EpsOk P eps gt w0) : eps 0 = .nilIface ∧ ∀ n, n ≠ 0 → ∃ T v, eps n = .iface T v :=
  ⟨h.zero, fun n hn => by obtain ⟨a, e⟩ := h.ptr n hn; exact ⟨_, _, e⟩⟩
theorem EpsOk.step {P : Program} {eps : Nat → Value} {gt : Nat → Option AV} {A : Nat → Nat → Prop} {w w' : World} (h : EpsOk P eps gt w) (hs : Step A w w') : EpsOk P eps gt w' := by
  refine ⟨h.zero, h.ptr, h.inj, fun g n hg hn => ?_⟩
  obtain ⟨a, c, t, e, hb⟩ := h.blk g n hg hn
  have hlt : a.block < w.heap.size := (Array.getElem?_eq_some_iff.1 hb).1
  rcases hs.blk a.block hlt with q | ⟨c1, c2, t1, f1, q1, q2, _, _⟩
  · exact ⟨a, c, t, e, by rw [q]; exact hb⟩
  · rw [hb] at q1
    simp only [Option.some.injEq, Obj.cells.injEq] at q1
    obtain ⟨rfl, rfl, rfl⟩ := q1
    exact ⟨a, c2, _, e, q2⟩
theorem EpsOk.sub {P : Program} {eps : Nat → Value} {gt gt' : Nat → Option AV} {w : World} (h : EpsOk P eps gt' w) (hs : ∀ g v, gt g = some v → gt' g = some v) : EpsOk P eps gt w :=
  ⟨h.zero, h.ptr, h.inj, fun g n hg hn => h.blk g n (hs g _ hg) hn⟩
structure Inv (X : Fx) (h : List Blk) (L : List Loc) (w : World) : Prop where
  eok : EpsOk X.G.P X.eps X.G.gt X.w0
  len : L.length = h.length
  blk : ∀ (id : Nat) b p, h[id]? = some b → L[id]? = some p → BlkOK (cx X h L w) b p
  dis : ∀ (i j : Nat) s t p q b o, i ≠ j → (h.map Blk.sh)[i]? = some s → (h.map Blk.sh)[j]? = some t → L[i]? = some p → L[j]? = some q → s.owns p b o → t.owns q b o → False
  out : ∀ b o, own (h.map Blk.sh) L b o → ¬ X.O b o
  new : ∀ b o, own (h.map Blk.sh) L b o → X.w0.heap.size ≤ b ∨ X.pin b o
  obd : ∀ b o, X.O b o → b < X.w0.heap.size
  stp : Step X.pin X.w0 w
  glb : ∀ g v, X.G.gt g = some v → ∃ cs, Cells (cx X h L w) v cs ∧ ∀ i (hi : i < cs.length), w.cell? ⟨g, i, none⟩ = some cs[i] ∧ ¬ (cx X h L w).A g i
  lone : X.G.lone = true → ∀ b o, ¬ X.pin b o
structure Rel (X : Fx) (st : St) (L : List Loc) (a : Act) (w : World) : Prop where
  inv : Inv X st.h L w
  tmp : st.t.length = a.tmps.size ∧ ∀ (i : Nat) v x, st.t[i]? = some v → a.tmps[i]? = some x → Val (cx X st.h L w) v x
  dfr : a.defers = []
mutual
theorem Cells_len {c : Cx} : ∀ (v : AV) (cs : List Value), Cells c v cs → cs.length = (sh v).len
  | .ints k n l, cs, ⟨h1, _, h2⟩ => by subst h2; simp [sh, Sh.len, h1]
  | .agg l, cs, h => by simpa [sh, Sh.len] using CellsL_len l cs h
  | .dead, _, ⟨y, e, g⟩ | .int .., _, ⟨y, e, g⟩ | .bool _, _, ⟨y, e, g⟩ | .str _, _, ⟨y, e, g⟩ | .tup _, _, ⟨y, e, g⟩ | .nils, _, ⟨y, e, g⟩ | .isl .., _, ⟨y, e, g⟩
  | .rsl .., _, ⟨y, e, g⟩ | .own .., _, ⟨y, e, g⟩ | .ptr .., _, ⟨y, e, g⟩ | .rpi .., _, ⟨y, e, g⟩ | .rps .., _, ⟨y, e, g⟩ | .esl .., _, ⟨y, e, g⟩ | .rpe .., _, ⟨y, e, g⟩ | .capv .., _, ⟨y, e, g⟩ | .ownx .., _, ⟨y, e, g⟩ | .asl .., _, ⟨y, e, g⟩ | .ige .., _, ⟨y, e, g⟩ | .emp, _, ⟨y, e, g⟩ | .nilp, _, ⟨y, e, g⟩ | .err _, _, ⟨y, e, g⟩
  | .glo _, _, ⟨y, e, g⟩ | .fn _, _, ⟨y, e, g⟩ | .gsl .., _, ⟨y, e, g⟩ | .rpg .., _, ⟨y, e, g⟩ | .cls .., _, ⟨y, e, g⟩ => by subst e; rfl
theorem CellsL_len {c : Cx} : ∀ (l : List AV) (cs : List Value), CellsL c l cs → cs.length = Sh.lenL (shL l)
  | [], cs, h => by simp only [CellsL] at h; subst h; rfl
  | v :: l, cs, ⟨c1, c2, e, g1, g2⟩ => by subst e; simp [shL, Sh.lenL, Cells_len v c1 g1, CellsL_len l c2 g2]
end
mutual
theorem Fz_len {w : World} {A : Nat → Nat → Prop} : ∀ (t : T) (x : Den t) (cs : List Value), Fz w A t x cs → cs.length = t.len
  | .int _, _, _, g => by obtain ⟨rfl, _⟩ := g; rfl
  | .bool, _, _, g => by obtain rfl := g; rfl
  | .str, _, _, g => by obtain rfl := g; rfl
  | .arr k _, x, _, g => by
    obtain ⟨h1, _, rfl⟩ := g
    exact (@List.length_map Int Value x (Value.int k)).trans h1
  | .sl _, _, _, ⟨v, e, g⟩ => by subst e; rfl
  | .rw (.int _), _, _, ⟨v, e, g⟩ => by subst e; rfl
  | .rw .bool, _, _, ⟨v, e, g⟩ => by subst e; rfl
  | .rw .str, _, _, ⟨v, e, g⟩ => by subst e; rfl
  | .rw (.arr _ _), _, _, ⟨v, e, g⟩ => by subst e; rfl
  | .rw (.sl _), _, _, ⟨v, e, g⟩ => by subst e; rfl
  | .rw (.rw _), _, _, ⟨v, e, g⟩ => by subst e; rfl
  | .rw (.st _), _, _, ⟨v, e, g⟩ => by subst e; rfl
  | .st ts, x, cs, g => by simpa only [T.len] using FzL_len ts x cs g
theorem FzL_len {w : World} {A : Nat → Nat → Prop} : ∀ (ts : List T) (x : DenL ts) (cs : List Value), FzL w A ts x cs → cs.length = T.lenL ts
  | [], _, _, g => by obtain rfl := g; rfl
  | t :: ts, x, _, ⟨c1, c2, e, g1, g2⟩ => by
    subst e
    rw [List.length_append, Fz_len t x.1 c1 g1, FzL_len ts x.2 c2 g2]; rfl
end
theorem mkRow_leaf {c : Cx} {t : T} {l : List (Den t)} {v : Value} (h : IsRw c.w c.A t.len (Fz c.w c.A t) l v) : leaf c (mkRow t l) v := by
  cases t with
  | int k =>
    obtain ⟨a, cap, h1, h2, h3, h4⟩ := h
    refine ⟨fun hk x hx => ?_, a, cap, h1, h2, fun b hb => (by cases hb), h3, fun p hp => ⟨(h4 p hp).1, fun i hi => ?_⟩⟩
    · cases a with
      | none => rw [(h3 rfl).1] at hx; cases hx
      | some p =>
        obtain ⟨i, hi, rfl⟩ := List.getElem_of_mem hx
        obtain ⟨cs, q1, _, _⟩ := (h4 p rfl).2 i hi
        exact q1.2 hk _ (List.mem_singleton.2 rfl)
    · obtain ⟨cs, q1, _, q3⟩ := (h4 p hp).2 i hi
      obtain ⟨rfl, _⟩ := q1
      have := q3 0 (by simp)
      rw [show p.off + (T.int k).len * i + 0 = p.off + i by simp [T.len]] at this
      exact this
  | sl k =>
    obtain ⟨a, cap, h1, h2, h3, h4⟩ := h
    refine ⟨a, cap, h1, h2, h3, fun p hp => ⟨(h4 p hp).1, fun i hi => ?_⟩⟩
    obtain ⟨cs, q1, _, q3⟩ := (h4 p hp).2 i hi
    obtain ⟨x, rfl, q1⟩ := q1
    have := q3 0 (by simp)
    exact ⟨x, by simpa [T.len] using this.1, by simpa [T.len] using this.2, q1⟩
  | bool => exact h
  | str => exact h
  | arr k n => exact h
  | rw t => exact h
  | st ts => exact h
theorem IsSl.rw {w : World} {A : Nat → Nat → Prop} {k : IntKind} {nl : Option Bool} {l : List Int} {v : Value} (h : IsSl w A k nl l v) : IsRw w A (T.int k).len (Fz w A (.int k)) l v := by
  obtain ⟨h0, a, cap, h1, h2, _, h4, h5⟩ := h
  refine ⟨a, cap, h1, h2, h4, fun p hp => ⟨(h5 p hp).1, fun i hi => ⟨[.int k l[i]], ⟨rfl, fun hk y hy => by rw [List.mem_singleton.1 hy]; exact h0 hk _ (List.getElem_mem hi)⟩, rfl, fun j hj => ?_⟩⟩⟩
  have hj0 : j = 0 := by simp at hj; omega
  subst hj0
  have := (h5 p hp).2 i hi
  simpa [T.len] using this
theorem rsl_rw {c : Cx} {k : IntKind} {l : List (List Int)} {v : Value} (h : leaf c (.rsl k l) v) : IsRw c.w c.A (T.sl k).len (Fz c.w c.A (.sl k)) l v := by
  obtain ⟨a, cap, h1, h2, h3, h4⟩ := h
  refine ⟨a, cap, h1, h2, h3, fun p hp => ⟨(h4 p hp).1, fun i hi => ?_⟩⟩
  obtain ⟨x, q1, q2, q3⟩ := (h4 p hp).2 i hi
  refine ⟨[x], ⟨x, rfl, q3⟩, rfl, fun j hj => ?_⟩
  have hj0 : j = 0 := by simp at hj; omega
  subst hj0
  exact ⟨by simpa [T.len] using q1, by simpa [T.len] using q2⟩
mutual
theorem Fz_Cells {c : Cx} : ∀ (t : T) (x : Den t) (cs : List Value), Fz c.w c.A t x cs → Cells c (enc t x) cs
  | .int _, _, _, g => ⟨_, g.1, rfl, g.2⟩
  | .bool, _, _, g => ⟨_, g, rfl⟩
  | .str, _, _, g => ⟨_, g, rfl⟩
  | .arr _ _, _, _, g => g
  | .sl _, _, _, ⟨v, e, g⟩ => ⟨v, e, g⟩
  | .rw (.int _), _, _, ⟨v, e, g⟩ => ⟨v, e, g⟩
  | .rw .bool, _, _, ⟨v, e, g⟩ => ⟨v, e, g⟩
  | .rw .str, _, _, ⟨v, e, g⟩ => ⟨v, e, g⟩
  | .rw (.arr _ _), _, _, ⟨v, e, g⟩ => ⟨v, e, g⟩
  | .rw (.sl _), _, _, ⟨v, e, g⟩ => ⟨v, e, mkRow_leaf g⟩
  | .rw (.rw _), _, _, ⟨v, e, g⟩ => ⟨v, e, g⟩
  | .rw (.st _), _, _, ⟨v, e, g⟩ => ⟨v, e, g⟩
  | .st ts, x, cs, g => FzL_Cells ts x cs g
theorem FzL_Cells {c : Cx} : ∀ (ts : List T) (x : DenL ts) (cs : List Value), FzL c.w c.A ts x cs → CellsL c (encL ts x) cs
  | [], _, _, g => g
  | t :: ts, x, _, ⟨c1, c2, e, g1, g2⟩ => ⟨c1, c2, e, Fz_Cells t x.1 c1 g1, FzL_Cells ts x.2 c2 g2⟩
end
theorem Fz_rw {w : World} {A : Nat → Nat → Prop} {t : T} (ht : t.isInt = false) {l : List (Den t)} {cs : List Value} (h : ∃ v, cs = [v] ∧ IsRw w A t.len (Fz w A t) l v) : Fz w A (.rw t) l cs := by
  cases t <;> first | exact h | cases ht
mutual
theorem decA_ok {c : Cx} : ∀ (v : AV) (x : (t : T) × Den t) (cs : List Value), decA v = some x → Cells c v cs → Fz c.w c.A x.1 x.2 cs
  | .int k n, x, cs, h, g => by
    simp only [decA, Option.some.injEq] at h
    subst h
    obtain ⟨y, rfl, rfl, q⟩ := g
    exact ⟨rfl, q⟩
  | .bool b, x, cs, h, g => by
    simp only [decA, Option.some.injEq] at h
    subst h
    obtain ⟨y, rfl, rfl⟩ := g
    exact rfl
  | .str l, x, cs, h, g => by
    simp only [decA, Option.some.injEq] at h
    subst h
    obtain ⟨y, rfl, rfl⟩ := g
    exact rfl
  | .ints k n l, x, cs, h, g => by
    simp only [decA, Option.some.injEq] at h
    subst h
    exact g
  | .isl k nl l, x, cs, h, g => by
    simp only [decA, Option.some.injEq] at h
    subst h
    obtain ⟨y, rfl, z0, ad, cp, z1, z2, _, z4, z5⟩ := g
    exact ⟨y, rfl, z0, ad, cp, z1, z2, (fun b hb => by cases hb), z4, z5⟩
  | .rsl k ll, x, cs, h, g => by
    simp only [decA, Option.some.injEq] at h
    subst h
    obtain ⟨y, rfl, a, cap, z1, z2, z3, z4⟩ := g
    refine ⟨y, rfl, a, cap, z1, z2, z3, fun p hp => ⟨(z4 p hp).1, fun i hi => ?_⟩⟩
    obtain ⟨q, q1, q2, q3⟩ := (z4 p hp).2 i hi
    refine ⟨[q], ⟨q, rfl, q3⟩, rfl, fun j hj => ?_⟩
    have hj : j = 0 := Nat.lt_one_iff.1 hj
    subst hj
    have e : p.off + T.len (.sl k) * i + 0 = p.off + i := by simp [T.len]
    rw [e]
    exact ⟨q1, q2⟩
  | .gsl t l, x, cs, h, g => by
    simp only [decA] at h
    cases ht : t.isInt with
    | true => rw [ht] at h; cases h
    | false =>
      rw [ht] at h
      simp only [cond_false, Option.some.injEq] at h
      subst h
      exact Fz_rw ht g
  | .agg l, x, cs, h, g => by
    simp only [decA] at h
    split at h
    · rename_i y hy
      cases h
      exact decL_ok l y cs hy g
    · cases h
  | .dead, x, cs, h, g | .tup _, x, cs, h, g | .nils, x, cs, h, g | .own .., x, cs, h, g | .ptr .., x, cs, h, g | .rpi .., x, cs, h, g | .rps .., x, cs, h, g | .esl _, x, cs, h, g | .rpe _, x, cs, h, g | .capv .., x, cs, h, g | .ownx .., x, cs, h, g
  | .asl .., x, cs, h, g | .ige _, x, cs, h, g | .emp, x, cs, h, g | .nilp, x, cs, h, g | .err _, x, cs, h, g | .glo _, x, cs, h, g | .fn _, x, cs, h, g | .rpg .., x, cs, h, g | .cls .., x, cs, h, g => by simp [decA] at h
theorem decL_ok {c : Cx} : ∀ (l : List AV) (x : (ts : List T) × DenL ts) (cs : List Value), decL l = some x → CellsL c l cs → FzL c.w c.A x.1 x.2 cs
  | [], x, cs, h, g => by
    simp only [decL, Option.some.injEq] at h
    subst h
    exact g
  | v :: l, x, cs, h, g => by
    simp only [decL] at h
    split at h
    · rename_i a b ha hb
      cases h
      obtain ⟨c1, c2, rfl, g1, g2⟩ := g
      exact ⟨c1, c2, rfl, decA_ok v a c1 ha g1, decL_ok l b c2 hb g2⟩
    · cases h
end
theorem fldT_ok {w : World} {A : Nat → Nat → Prop} : ∀ (ts : List T) (x : DenL ts) (n o : Nat) (y : (t : T) × Den t) (cs : List Value), fldT ts x n = some (o, y) → FzL w A ts x cs →
    ∃ a b c, cs = a ++ (b ++ c) ∧ a.length = o ∧ Fz w A y.1 y.2 b
  | [], _, _, _, _, _, h, _ => by simp [fldT] at h
  | t :: ts, x, 0, o, y, cs, h, g => by
    simp only [fldT, Option.some.injEq, Prod.mk.injEq] at h
    obtain ⟨rfl, rfl⟩ := h
    obtain ⟨c1, c2, rfl, g1, g2⟩ := g
    exact ⟨[], c1, c2, rfl, rfl, g1⟩
  | t :: ts, x, n + 1, o, y, cs, h, g => by
    simp only [fldT] at h
    split at h
    · rename_i o' y' hf
      cases h
      obtain ⟨c1, c2, rfl, g1, g2⟩ := g
      obtain ⟨a, b, c, rfl, rfl, q⟩ := fldT_ok ts x.2 n o' y c2 hf g2
      refine ⟨c1 ++ a, b, c, by simp, ?_, q⟩
      rw [List.length_append, Fz_len t x.1 c1 g1]
    · cases h
theorem shL_eq (l : List AV) : shL l = l.map sh := by
  induction l with
  | nil => rfl
  | cons v l ih => simp [shL, ih]
theorem lenL_append (l m : List Sh) : Sh.lenL (l ++ m) = Sh.lenL l + Sh.lenL m := by
  induction l with
  | nil => simp [Sh.lenL]
  | cons a l ih => simp [Sh.lenL, ih]; omega
theorem CellsL_append {c : Cx} (l m : List AV) (cs : List Value) : CellsL c (l ++ m) cs ↔ ∃ c1 c2, cs = c1 ++ c2 ∧ CellsL c l c1 ∧ CellsL c m c2 := by
  induction l generalizing cs with
  | nil =>
    simp only [List.nil_append, CellsL]
    exact ⟨fun h => ⟨[], cs, rfl, rfl, h⟩, fun ⟨c1, c2, e, e1, h⟩ => by subst e1; subst e; exact h⟩
  | cons v l ih =>
    simp only [List.cons_append, CellsL, ih]
    constructor
    · rintro ⟨c1, _, rfl, h1, c2, c3, rfl, h2, h3⟩
      exact ⟨c1 ++ c2, c3, by simp, ⟨c1, c2, rfl, h1, h2⟩, h3⟩
    · rintro ⟨_, c3, rfl, ⟨c1, c2, rfl, h1, h2⟩, h3⟩
      exact ⟨c1, c2 ++ c3, by simp, h1, c2, c3, rfl, h2, h3⟩
theorem list_split {α : Type} (l : List α) (i : Nat) (v : α) (h : l[i]? = some v) : l = l.take i ++ v :: l.drop (i + 1) ∧ i < l.length := by
  have hi : i < l.length := by
    rcases Nat.lt_or_ge i l.length with q | q
    · exact q
    · simp [List.getElem?_eq_none q] at h
  refine ⟨?_, hi⟩
  have : v = l[i] := by simpa [List.getElem?_eq_getElem hi] using h.symm
  subst this
  simp
theorem list_set_split {α : Type} (l : List α) (i : Nat) (v : α) (h : i < l.length) : l.set i v = l.take i ++ v :: l.drop (i + 1) := by
  rw [List.set_eq_take_append_cons_drop, if_pos h]
theorem Cells_at {c : Cx} : ∀ (p : List Nat) (v x : AV) (cs : List Value) (o : Nat) (s : Sh), Cells c v cs → getP v p = some x → Sh.at (sh v) p = some (o, s) →
    ∃ pre cx post, cs = pre ++ cx ++ post ∧ pre.length = o ∧ Cells c x cx ∧ sh x = s ∧
      ∀ y cy v', Cells c y cy → sh y = s → setP v p y = some v' → kindOk v p y = true → Cells c v' (pre ++ cy ++ post) ∧ sh v' = sh v := by
  intro p
  induction p with
  | nil =>
    intro v x cs o s hc hg hs
    have h1 : x = v := by cases v <;> simp_all [getP]
    have h2 : o = 0 ∧ s = sh v := by cases hv : sh v <;> simp_all [Sh.at]
    obtain ⟨rfl, rfl⟩ := h2
    subst h1
    refine ⟨[], cs, [], by simp, rfl, hc, rfl, fun y cy v' hy hs' hset _ => ?_⟩
    have : v' = y := by cases x <;> simp_all [setP]
    subst this
    exact ⟨by simpa using hy, hs'⟩
  | cons i p ih =>
    intro v x cs o s hc hg hs
    cases v with
    | ints k n l =>
      cases p with
      | cons j p => simp [getP] at hg
      | nil =>
        simp only [getP, Option.some.injEq] at hg
        simp only [sh, Sh.at] at hs
        split at hs
        · rename_i hi
          simp only [Option.some.injEq, Prod.mk.injEq] at hs
          obtain ⟨rfl, rfl⟩ := hs
          subst hg
          obtain ⟨hl, hn, rfl⟩ := hc
          have hil : i < l.length := by omega
          have hx : l.getD i 0 = l[i] := by simp [List.getD, List.getElem?_eq_getElem hil]
          refine ⟨(l.take i).map (Value.int k), [.int k (l.getD i 0)], (l.drop (i + 1)).map (Value.int k), ?_, by simp; omega, ⟨_, rfl, rfl, fun hk y hy => ?_⟩, rfl, ?_⟩
          · rw [hx]
            have := (list_split (l.map (Value.int k)) i (Value.int k l[i]) (by simp [List.getElem?_eq_getElem hil])).1
            simpa using this
          · rw [List.mem_singleton] at hy; subst hy; rw [hx]; exact hn hk _ (List.getElem_mem hil)
          · intro y cy v' hy hsy hset hk
            cases y <;> simp only [setP, reduceCtorEq, Option.some.injEq] at hset
            rename_i k' z
            subst hset
            obtain ⟨yv, rfl, rfl, hz⟩ := hy
            simp only [kindOk, AV.intK, decide_eq_true_eq] at hk
            subst hk
            refine ⟨⟨by simp [hl], fun hks y hy => ?_, ?_⟩, by simp [sh]⟩
            · rw [list_set_split l i z hil] at hy
              simp only [List.mem_append, List.mem_cons] at hy
              rcases hy with hy | rfl | hy
              · exact hn hks _ (List.mem_of_mem_take hy)
              · exact hz hks _ (by simp)
              · exact hn hks _ (List.mem_of_mem_drop hy)
            · rw [list_set_split l i z hil]; simp
        · simp at hs
    | agg l =>
      simp only [getP] at hg
      simp only [sh, Sh.at, shL_eq, List.getElem?_map] at hs
      cases hv : l[i]? with
      | none => simp [hv] at hg
      | some v0 =>
        simp only [hv] at hg
        simp only [hv, Option.map_some] at hs
        cases hat : Sh.at (sh v0) p with
        | none => simp [hat] at hs
        | some os =>
          obtain ⟨o', s'⟩ := os
          simp only [hat, Option.some.injEq, Prod.mk.injEq] at hs
          obtain ⟨rfl, rfl⟩ := hs
          obtain ⟨hl, hi⟩ := list_split l i v0 hv
          have hc' : CellsL c (l.take i ++ v0 :: l.drop (i + 1)) cs := by rw [← hl]; exact hc
          rw [CellsL_append] at hc'
          obtain ⟨c1, c2, rfl, g1, c3, c4, rfl, g2, g3⟩ := hc'
          obtain ⟨pre, cx, post, rfl, hpre, hx, hsx, hset⟩ := ih v0 x c3 o' s' g2 hg hat
          refine ⟨c1 ++ pre, cx, post ++ c4, by simp, ?_, hx, hsx, ?_⟩
          · have := CellsL_len _ _ g1
            rw [shL_eq, List.map_take] at this
            simp [this, hpre]
          · intro y cy v' hy hsy hset' hk
            simp only [setP, hv] at hset'
            cases hq : setP v0 p y with
            | none => simp [hq] at hset'
            | some v1 =>
              simp only [hq, Option.some.injEq] at hset'
              subst hset'
              simp only [kindOk, hv] at hk
              obtain ⟨r1, r2⟩ := hset y cy v1 hy hsy hq hk
              constructor
              · show CellsL c (l.set i v1) _
                rw [list_set_split l i v1 hi, CellsL_append]
                exact ⟨c1, pre ++ cy ++ post ++ c4, by simp, g1, _, _, by simp, r1, g3⟩
              · simp only [sh, shL_eq, Sh.agg.injEq]
                rw [List.map_set, r2]
                apply List.ext_getElem?
                intro j
                by_cases hj : i = j
                · subst hj
                  have : l[i] = v0 := by simpa [List.getElem?_eq_getElem hi] using hv
                  simp [hi, this]
                · simp [List.getElem?_set_ne hj]
    | _ => simp [getP] at hg
end Go.Ev
namespace Go.Ev
theorem Step.trans' {A M : Nat → Nat → Prop} {u v w : World} (h : Step A u v) (k : Step M v w) (hm : ∀ b o, b < u.heap.size → M b o → A b o) : Step A u w := by
  refine ⟨k.os.trans h.os, k.tape.trans h.tape, k.output.trans h.output, Nat.le_trans h.size k.size, fun b hb => ?_, cln_trans h.cln k.cln k.blk⟩
  rcases h.blk b hb with h1 | ⟨c, c', e, f, h1, h2, h3, h4⟩
  · rcases k.blk b (Nat.lt_of_lt_of_le hb h.size) with k1 | ⟨c, c', e, f, k1, k2, k3, k4⟩
    · exact .inl (k1.trans h1)
    · exact .inr ⟨c, c', e, f, h1 ▸ k1, k2, k3, fun o ho => k4 o fun hmo => ho (hm b o hb hmo)⟩
  · rcases k.blk b (Nat.lt_of_lt_of_le hb h.size) with k1 | ⟨d, d', e', f', k1, k2, k3, k4⟩
    · exact .inr ⟨c, c', e, f, h1, k1.trans h2, h3, h4⟩
    · rw [h2] at k1
      simp only [Option.some.injEq, Obj.cells.injEq] at k1
      obtain ⟨rfl, rfl, rfl⟩ := k1
      exact .inr ⟨c, d', e, f, h1, k2, k3.trans h3, fun o ho => (k4 o fun hmo => ho (hm b o hb hmo)).trans (h4 o ho)⟩
theorem BlkOK.keep {c c' : Cx} (hle : c.Le c') {M : Nat → Nat → Prop} (hst : Step M c.w c'.w) {b : Blk} {p : Loc} (hM : ∀ x y, b.sh.owns p x y → ¬ M x y) (h : BlkOK c b p) : BlkOK c' b p := by
  cases b with
  | rsv => trivial
  | dead => trivial
  | var v =>
    obtain ⟨cs, h1, h2⟩ := h
    refine ⟨cs, Cells.le hle v cs h1, fun i hi => ?_⟩
    have hlt := World.block_lt_of_cell? c.w _ (h2 i hi).1
    have ho : Blk.sh (.var v) |>.owns p p.b (p.o + i) := ⟨rfl, by omega, by rw [← Cells_len v cs h1]; omega⟩
    exact ⟨(hst.cell hlt (hM _ _ ho)).trans (h2 i hi).1, (hst.frozen hlt).trans (h2 i hi).2⟩
  | row k nl l =>
    obtain ⟨h0, h1, h2⟩ := h
    refine ⟨h0, h1, fun hn => ?_⟩
    obtain ⟨q1, q2, q3⟩ := h2 hn
    have own (i : Nat) (hi : i < p.cap) : Blk.sh (.row k nl l) |>.owns p p.b (p.o + i) := ⟨hn, rfl, by omega, by omega⟩
    refine ⟨q1, fun i hi => ?_, fun i hi => ?_⟩
    · have hlt := World.block_lt_of_cell? c.w _ (q2 i hi)
      exact (hst.cell hlt (hM _ _ (own i (by omega)))).trans (q2 i hi)
    · obtain ⟨⟨x, hx⟩, hf⟩ := q3 i hi
      have hlt := World.block_lt_of_cell? c.w _ hx
      exact ⟨⟨x, (hst.cell hlt (hM _ _ (own i hi))).trans hx⟩, (hst.frozen hlt).trans hf⟩
  | gro t nl l =>
    obtain ⟨h0, h1, h2⟩ := h
    refine ⟨h0, h1, fun hn => ?_⟩
    obtain ⟨q1, q2, q3⟩ := h2 hn
    have own (i : Nat) (hi : i < p.cap) : Blk.sh (.gro t nl l) |>.owns p p.b (p.o + i) := ⟨hn, rfl, by omega, by omega⟩
    refine ⟨q1, fun i hi => ?_, fun i hi => ?_⟩
    · obtain ⟨cs, r1, r2⟩ := q2 i hi
      refine ⟨cs, Fz.le hle t _ cs r1, fun j hj => ?_⟩
      have hlt := World.block_lt_of_cell? c.w _ (r2 j hj)
      have hlen := Fz_len t _ cs r1
      have hcap : t.len * i + j < p.cap := by
        have a1 : t.len * (i + 1) ≤ t.len * (p.cap / t.len) := Nat.mul_le_mul_left _ (by omega)
        have a2 := Nat.mul_div_le p.cap t.len
        rw [Nat.mul_succ] at a1
        omega
      have := own (t.len * i + j) hcap
      rw [← Nat.add_assoc] at this
      exact (hst.cell hlt (hM _ _ this)).trans (r2 j hj)
    · obtain ⟨⟨x, hx⟩, hf⟩ := q3 i hi
      have hlt := World.block_lt_of_cell? c.w _ hx
      exact ⟨⟨x, (hst.cell hlt (hM _ _ (own i hi))).trans hx⟩, (hst.frozen hlt).trans hf⟩
theorem Inv.upd {X : Fx} {h h' : List Blk} {L L' : List Loc} {w w' : World} (I : Inv X h L w) (M : Nat → Nat → Prop) (hlen : L'.length = h'.length)
    (hst : Step M w w') (hM : ∀ b o, M b o → own (h.map Blk.sh) L b o)
    (hS : ∀ (id : Nat) s, (h.map Blk.sh)[id]? = some s → s ≠ .rsv → ((h'.map Blk.sh)[id]? = some s ∧ L'[id]? = L[id]?) ∨ (h'.map Blk.sh)[id]? = some .dead)
    (hown : ∀ b o, own (h'.map Blk.sh) L' b o → own (h.map Blk.sh) L b o ∨ w.heap.size ≤ b)
    (hdis : ∀ (i j : Nat) s t p q b o, i ≠ j → (h'.map Blk.sh)[i]? = some s → (h'.map Blk.sh)[j]? = some t → L'[i]? = some p → L'[j]? = some q → s.owns p b o → t.owns q b o → False)
    (hblk : Cx.Le (cx X h L w) (cx X h' L' w') → ∀ (id : Nat) b p, h'[id]? = some b → L'[id]? = some p →
      (h[id]? = some b ∧ L[id]? = some p ∧ ∀ x y, b.sh.owns p x y → ¬ M x y) ∨ BlkOK (cx X h' L' w') b p) :
    Inv X h' L' w' ∧ Cx.Le (cx X h L w) (cx X h' L' w') := by
  have hle : Cx.Le (cx X h L w) (cx X h' L' w') := by
    refine ⟨rfl, fun b o v hv hA => ?_, hS⟩
    have hlt := World.block_lt_of_cell? w _ hv
    have hno : ¬ own (h.map Blk.sh) L b o := fun q => hA (.inr q)
    refine ⟨(hst.cell hlt fun q => hno (hM b o q)).trans hv, fun q => ?_⟩
    rcases q with q | q
    · exact hA (.inl q)
    · rcases hown b o q with r | r
      · exact hno r
      · have : b < w.heap.size := hlt
        omega
  refine ⟨⟨I.eok, hlen, fun id b p hb hp => ?_, hdis, fun b o q hO => ?_, fun b o q => ?_, I.obd, ?_, fun g v hg => ?_, I.lone⟩, hle⟩
  · rcases hblk hle id b p hb hp with ⟨h1, h2, h3⟩ | h1
    · exact BlkOK.keep hle hst h3 (I.blk id b p h1 h2)
    · exact h1
  · rcases hown b o q with r | r
    · exact I.out b o r hO
    · have := I.obd b o hO; have := I.stp.size; omega
  · rcases hown b o q with r | r
    · exact I.new b o r
    · exact .inl (Nat.le_trans I.stp.size r)
  · exact I.stp.trans' hst fun b o hb hm => (I.new b o (hM b o hm)).resolve_left (by omega)
  · obtain ⟨cs, h1, h2⟩ := I.glb g v hg
    refine ⟨cs, Cells.le hle v cs h1, fun i hi => ?_⟩
    exact hle.cell g i _ (h2 i hi).1 (h2 i hi).2
theorem getElem?_set_cases {α : Type} {l : List α} {i j : Nat} {a b : α} (h : (l.set i a)[j]? = some b) : (i = j ∧ a = b ∧ i < l.length) ∨ (i ≠ j ∧ l[j]? = some b) := by
  by_cases hij : i = j
  · subst hij
    by_cases hi : i < l.length
    · rw [List.getElem?_set_self hi] at h; exact .inl ⟨rfl, by simpa using h, hi⟩
    · rw [List.getElem?_eq_none (by rw [List.length_set]; omega)] at h; cases h
  · rw [List.getElem?_set_ne hij] at h; exact .inr ⟨hij, h⟩
theorem map_set_sh (h : List Blk) (i : Nat) (b : Blk) : (h.set i b).map Blk.sh = (h.map Blk.sh).set i b.sh := by simp [List.map_set]
theorem own_set {S : List BSh} {L : List Loc} {i : Nat} {s : BSh} {p : Loc} {b o : Nat} (h : own (S.set i s) (L.set i p) b o) : s.owns p b o ∨ own S L b o := by
  obtain ⟨id, t, q, h1, h2, h3⟩ := h
  rcases getElem?_set_cases h1 with ⟨rfl, rfl, _⟩ | ⟨hne, h1'⟩
  · rcases getElem?_set_cases h2 with ⟨_, rfl, _⟩ | ⟨hne, _⟩
    · exact .inl h3
    · exact absurd rfl hne
  · rw [List.getElem?_set_ne hne] at h2
    exact .inr ⟨id, t, q, h1', h2, h3⟩
theorem not_own_of_fresh {X : Fx} {h : List Blk} {L : List Loc} {w : World} (I : Inv X h L w) {b o : Nat} (hb : w.heap.size ≤ b) : ¬ own (h.map Blk.sh) L b o := by
  rintro ⟨id, s, p, h1, h2, h3⟩
  rw [List.getElem?_map] at h1
  cases hb' : h[id]? with
  | none => simp [hb'] at h1
  | some blk =>
    simp only [hb', Option.map_some, Option.some.injEq] at h1
    subst h1
    have hk := I.blk id blk p hb' h2
    cases blk with
    | rsv => exact h3
    | dead => exact h3
    | var v =>
      obtain ⟨cs, g1, g2⟩ := hk
      obtain ⟨rfl, q1, q2⟩ := h3
      have := Cells_len v cs g1
      have hlt := World.block_lt_of_cell? w _ (g2 (o - p.o) (by omega)).1
      simp at hlt; omega
    | row k nl l =>
      obtain ⟨hn, rfl, q1, q2⟩ := h3
      obtain ⟨_, _, g⟩ := hk
      obtain ⟨x, hx⟩ := ((g hn).2.2 (o - p.o) (by omega)).1
      have hlt := World.block_lt_of_cell? w _ hx
      simp at hlt; omega
    | gro t nl l =>
      obtain ⟨hn, rfl, q1, q2⟩ := h3
      obtain ⟨_, _, g⟩ := hk
      obtain ⟨x, hx⟩ := ((g hn).2.2 (o - p.o) (by omega)).1
      have hlt := World.block_lt_of_cell? w _ hx
      simp at hlt; omega
theorem Inv.alloc {X : Fx} {h : List Blk} {L : List Loc} {w : World} (I : Inv X h L w) {nid : Nat} (hn : h[nid]? = some .rsv) (b : Blk) (p : Loc) (ob : Obj)
    (hp : ∀ x y, b.sh.owns p x y → x = w.heap.size)
    (hb : Cx.Le (cx X h L w) (cx X (h.set nid b) (L.set nid p) (w.alloc ob)) → BlkOK (cx X (h.set nid b) (L.set nid p) (w.alloc ob)) b p)
    (hcl : ∀ c e f, ob = .cells c e f → clean c.size f := by intro _ _ _ h; cases h <;> exact .inl rfl) :
    Inv X (h.set nid b) (L.set nid p) (w.alloc ob) ∧ Cx.Le (cx X h L w) (cx X (h.set nid b) (L.set nid p) (w.alloc ob)) := by
  have hnid : nid < h.length := by
    rcases Nat.lt_or_ge nid h.length with q | q
    · exact q
    · simp [List.getElem?_eq_none q] at hn
  refine I.upd (fun _ _ => False) (by simp [I.len]) (Step.alloc _ _ _ hcl) (fun _ _ q => q.elim) ?_ ?_ ?_ ?_
  · intro id s hs hr
    rw [map_set_sh]
    have hne : nid ≠ id := by rintro rfl; rw [List.getElem?_map, hn] at hs; simp at hs; exact hr hs.symm
    exact .inl ⟨by rw [List.getElem?_set_ne hne]; exact hs, by rw [List.getElem?_set_ne hne]⟩
  · intro x y q
    rw [map_set_sh] at q
    rcases own_set q with q | q
    · exact .inr (by rw [hp x y q]; exact Nat.le_refl _)
    · exact .inl q
  · intro i j s t p' q' x y hij hs ht hp' hq' ho1 ho2
    rw [map_set_sh] at hs ht
    have old (id : Nat) (t : BSh) (q : Loc) (h1 : (h.map Blk.sh)[id]? = some t) (h2 : L[id]? = some q) (h3 : t.owns q x y) : x ≠ w.heap.size := fun e =>
      not_own_of_fresh I (b := x) (o := y) (by omega) ⟨id, t, q, h1, h2, h3⟩
    rcases getElem?_set_cases hs with ⟨rfl, rfl, _⟩ | ⟨hne, hs'⟩
    · rcases getElem?_set_cases hp' with ⟨_, rfl, _⟩ | ⟨hne, _⟩
      · rw [List.getElem?_set_ne hij] at ht hq'
        exact old j t q' ht hq' ho2 (hp _ _ ho1)
      · exact hne rfl
    · rw [List.getElem?_set_ne hne] at hp'
      rcases getElem?_set_cases ht with ⟨rfl, rfl, _⟩ | ⟨hne2, ht'⟩
      · rcases getElem?_set_cases hq' with ⟨_, rfl, _⟩ | ⟨hne, _⟩
        · exact old i s p' hs' hp' ho1 (hp _ _ ho2)
        · exact hne rfl
      · rw [List.getElem?_set_ne hne2] at hq'
        exact I.dis i j s t p' q' x y hij hs' ht' hp' hq' ho1 ho2
  · intro hle id b' p' hb' hp'
    rcases getElem?_set_cases hb' with ⟨rfl, rfl, _⟩ | ⟨hne, hb''⟩
    · rcases getElem?_set_cases hp' with ⟨_, rfl, _⟩ | ⟨hne, _⟩
      · exact .inr (hb hle)
      · exact absurd rfl hne
    · rw [List.getElem?_set_ne hne] at hp'
      exact .inl ⟨hb'', hp', fun _ _ _ q => q⟩
theorem list_set_self {α : Type} (l : List α) (i : Nat) (a : α) (h : l[i]? = some a) : l.set i a = l := by
  apply List.ext_getElem?
  intro j
  by_cases hj : i = j
  · subst hj
    have : i < l.length := by
      rcases Nat.lt_or_ge i l.length with q | q
      · exact q
      · simp [List.getElem?_eq_none q] at h
    rw [List.getElem?_set_self this, h]
  · rw [List.getElem?_set_ne hj]
theorem Inv.write {X : Fx} {h : List Blk} {L : List Loc} {w w' : World} (I : Inv X h L w) {id : Nat} {b0 b : Blk} {p : Loc} (h0 : h[id]? = some b0) (hp : L[id]? = some p)
    (hsh : b.sh = b0.sh) (hst : Step (fun x y => b0.sh.owns p x y) w w')
    (hb : Cx.Le (cx X h L w) (cx X (h.set id b) L w') → BlkOK (cx X (h.set id b) L w') b p) :
    Inv X (h.set id b) L w' ∧ Cx.Le (cx X h L w) (cx X (h.set id b) L w') := by
  have hS : (h.set id b).map Blk.sh = h.map Blk.sh := by
    rw [map_set_sh]
    exact list_set_self _ _ _ (by rw [List.getElem?_map, h0]; simp [hsh])
  refine I.upd (fun x y => b0.sh.owns p x y) (by simp [I.len]) hst (fun x y q => ⟨id, b0.sh, p, by rw [List.getElem?_map, h0]; rfl, hp, q⟩) ?_ ?_ ?_ ?_
  · intro i s hs _; rw [hS]; exact .inl ⟨hs, rfl⟩
  · intro x y q; rw [hS] at q; exact .inl q
  · rw [hS]; exact I.dis
  · intro hle i b' p' hb' hp'
    rcases getElem?_set_cases hb' with ⟨rfl, rfl, _⟩ | ⟨hne, hb''⟩
    · rw [hp] at hp'; simp only [Option.some.injEq] at hp'; subst hp'
      exact .inr (hb hle)
    · refine .inl ⟨hb'', hp', fun x y q1 q2 => ?_⟩
      exact I.dis i id b'.sh b0.sh p' p x y (Ne.symm hne) (by rw [List.getElem?_map, hb'']; rfl) (by rw [List.getElem?_map, h0]; rfl) hp' hp q1 q2
theorem Inv.kill {X : Fx} {h : List Blk} {L : List Loc} {w : World} (I : Inv X h L w) (id : Nat) :
    Inv X (h.set id .dead) L w ∧ Cx.Le (cx X h L w) (cx X (h.set id .dead) L w) := by
  have key (i : Nat) (s : BSh) (hs : ((h.map Blk.sh).set id .dead)[i]? = some s) : s = .dead ∨ (h.map Blk.sh)[i]? = some s := by
    rcases getElem?_set_cases hs with ⟨_, rfl, _⟩ | ⟨_, hs'⟩
    · exact .inl rfl
    · exact .inr hs'
  refine I.upd (fun _ _ => False) (by simp [I.len]) (Step.refl _ _) (fun _ _ q => q.elim) ?_ ?_ ?_ ?_
  · intro i s hs hne
    rw [map_set_sh]
    by_cases hi : id = i
    · subst hi
      refine .inr ?_
      have : id < (h.map Blk.sh).length := by
        rcases Nat.lt_or_ge id (h.map Blk.sh).length with q | q
        · exact q
        · simp [List.getElem?_eq_none q] at hs
      exact List.getElem?_set_self this
    · rw [List.getElem?_set_ne hi]; exact .inl ⟨hs, rfl⟩
  · intro x y q
    rw [map_set_sh] at q
    obtain ⟨i, s, p, h1, h2, h3⟩ := q
    rcases key i s h1 with rfl | h1'
    · exact h3.elim
    · exact .inl ⟨i, s, p, h1', h2, h3⟩
  · intro i j s t p q x y hij hs ht hp hq o1 o2
    rw [map_set_sh] at hs ht
    rcases key i s hs with rfl | hs'
    · exact o1
    · rcases key j t ht with rfl | ht'
      · exact o2
      · exact I.dis i j s t p q x y hij hs' ht' hp hq o1 o2
  · intro _ i b p hb hp
    rcases getElem?_set_cases hb with ⟨_, rfl, _⟩ | ⟨hne, hb'⟩
    · exact .inr trivial
    · exact .inl ⟨hb', hp, fun _ _ _ q => q⟩
end Go.Ev
namespace Go.Ev
def OpOk (G : Gi) (o : Oper) (t : List AV) (look : Nat → Blk) (nid : Nat) (v : AV) (us : List (Nat × Blk)) : Prop :=
  ∀ (X : Fx), X.G = G → ∀ (h : List Blk) (L : List Loc) (a : Act) (w : World) (next : Act → World → Prop) (Q : Exit → Act → World → Prop), Inv X h L w →
    (∀ x ∈ o.op.operands.toList, Val (cx X h L w) (evO t x) (a.eval x)) →
    (∀ id, look id ≠ .rsv → h[id]? = some (look id)) →
    (∀ i, i < resv o → h[nid + i]? = some .rsv) →
    (∀ cv L' w', Inv X (applyU h us) L' w' → Cx.Le (cx X h L w) (cx X (applyU h us) L' w') → Val (cx X (applyU h us) L' w') v cv → next (a.put o.dst cv) w') →
    o.wp X.G.P a w next Q ∨ (o.asks X.G.P a w ∧ LetsOut Q)
theorem Cx.Le.refl (c : Cx) : c.Le c := ⟨rfl, fun _ _ _ h1 h2 => ⟨h1, h2⟩, fun _ _ h _ => .inl ⟨h, rfl⟩⟩
theorem Cx.Le.trans {a b c : Cx} (h : a.Le b) (k : b.Le c) : a.Le c := by
  refine ⟨k.eps.trans h.eps, fun x o v h1 h2 => ?_, fun id s hs hr => ?_⟩
  · obtain ⟨q1, q2⟩ := h.cell x o v h1 h2
    exact k.cell x o v q1 q2
  · rcases h.sh id s hs hr with ⟨q1, q2⟩ | q
    · rcases k.sh id s q1 hr with ⟨r1, r2⟩ | r
      · exact .inl ⟨r1, r2.trans q2⟩
      · exact .inr r
    · rcases k.sh id .dead q (by simp) with ⟨r1, _⟩ | r
      · exact .inr r1
      · exact .inr r
theorem OpOk.pure {G : Gi} {o : Oper} {t : List AV} {look : Nat → Blk} {nid : Nat} {v : AV}
    (hp : ∀ (X : Fx), X.G = G → ∀ (h : List Blk) (L : List Loc) (a : Act) (w : World), Inv X h L w → (∀ x ∈ o.op.operands.toList, Val (cx X h L w) (evO t x) (a.eval x)) → (∀ id, look id ≠ .rsv → h[id]? = some (look id)) →
      ∃ cv, (execOp a.eval o).run X.G.P w = .ok (.value cv) w ∧ Val (cx X h L w) v cv) : OpOk G o t look nid v [] := by
  intro X hXG h L a w next Q I hv hl _ hk
  obtain ⟨cv, h1, h2⟩ := hp X hXG h L a w I hv hl
  refine .inl ?_
  unfold Oper.wp
  rw [h1]
  exact hk cv L w I (Cx.Le.refl _) h2
theorem NN1 {k : IntKind} {n : Int} : NN k [n] ↔ (k.signed = false → 0 ≤ n) := by simp [NN]
theorem wrap_nn (k : IntKind) (n : Int) : NN k [k.wrap n] := by
  rw [NN1]
  intro hk
  unfold IntKind.wrap
  simp only [hk, Bool.false_and, Bool.false_eq_true, if_false]
  exact Int.emod_nonneg _ (by cases k <;> decide)
theorem iand_nn (k : IntKind) (x y : Int) : NN k [iand k x y] := wrap_nn _ _
theorem ior_nn (k : IntKind) (x y : Int) : NN k [ior k x y] := wrap_nn _ _
theorem ixor_nn (k : IntKind) (x y : Int) : NN k [ixor k x y] := wrap_nn _ _
theorem iandn_nn (k : IntKind) (x y : Int) : NN k [iandn k x y] := wrap_nn _ _
theorem inot_nn (k : IntKind) (x : Int) : NN k [inot k x] := wrap_nn _ _
theorem ishl_nn (k : IntKind) (x y : Int) : NN k [ishl k x y] := wrap_nn _ _
theorem ishr_nn {k : IntKind} {x : Int} (y : Int) (h : NN k [x]) : NN k [ishr k x y] := by
  rw [NN1] at *
  intro hk
  unfold ishr
  have h1 := h hk
  rw [Int.fdiv_eq_ediv_of_nonneg _ (by exact Int.le_of_lt (Int.pow_pos (by decide)))]
  exact Int.ediv_nonneg h1 (Int.le_of_lt (Int.pow_pos (by decide)))
theorem tmod_nn {k : IntKind} {x : Int} (y : Int) (h : NN k [x]) : NN k [x.tmod y] := by
  rw [NN1] at *
  intro hk
  exact Int.tmod_nonneg _ (h hk)
theorem run_eqGuard (P : Program) (op : BinOp) (t : TypeId) (x y : Operand) (a b : Value) (w : World) (h1 : a ≠ .nilIface ∨ b ≠ .nilIface) (h2 : (∀ c, a ≠ .agg c) ∨ ∀ c, b ≠ .agg c) :
    (eqGuard op t x y a b).run P w = .ok () w := by
  unfold eqGuard
  cases op <;> cases a <;> cases b <;> simp_all
theorem cond_none {R : Type} {b : Bool} {x : Option R} {r : R} (h : cond b x none = some r) : b = true ∧ x = some r := by
  cases b <;> simp_all
theorem cond_none' {R : Type} {b : Bool} {x : Option R} {r : R} (h : cond b none x = some r) : b = false ∧ x = some r := by
  cases b <;> simp_all
theorem run_binOp_int (P : Program) (w : World) (op : BinOp) (t : TypeId) (k : IntKind) (a b : Int) (hs : op ≠ .shl ∧ op ≠ .shr) :
    (binOp op t (.int k a) (.int k b)).run P w = (match op with
      | .add | .sub | .mul => Op.intArith op k a b
      | .quo | .rem => Op.intDiv op k a b
      | .and | .or | .xor | .andNot => Op.intBits op k a b
      | _ => Op.intCmp op a b).run P w := by
  cases op <;> simp_all [binOp]
theorem run_underlying' {P : Program} {t : TypeId} {d : TypeDesc} (h : P.underlying t = some d) (w : World) : (underlying t).run P w = .ok d w := by
  simp [underlying, h]
theorem run_equalIn_bool {P : Program} {t : TypeId} (hu : P.underlying t = some .bool) (d : Nat) (a b : Bool) (w : World) : (Op.equalIn (d + 1) t (.bool a) (.bool b)).run P w = .ok (a == b) w := by
  simp only [Op.equalIn, Sem.run_bind, run_underlying' hu, Result.andThen_ok, Sem.run_pure]
theorem run_equal_of {P : Program} {t : TypeId} {x y : Value} {r : Bool} {w w' : World} (h : (Op.equalIn (9999 + 1) t x y).run P w = .ok r w') : (Op.equal t x y).run P w = .ok r w' := h
theorem ba_loop (s : ByteArray) : ∀ (n i : Nat) (r : List UInt8), s.size - i = n → ByteArray.toList.loop s i r = r.reverse ++ s.data.toList.drop i := by
  intro n
  induction n with
  | zero =>
    intro i r h
    rw [ByteArray.toList.loop]
    have h1 : ¬ i < s.size := by omega
    have h2 : s.data.toList.length ≤ i := by have := Nat.le_of_not_lt h1; rw [Array.length_toList]; exact this
    simp only [h1, if_false, List.drop_eq_nil_of_le h2, List.append_nil]
  | succ n ih =>
    intro i r h
    rw [ByteArray.toList.loop]
    have h1 : i < s.size := by omega
    simp only [h1, if_true]
    rw [ih (i + 1) _ (by omega)]
    have h2 : i < s.data.toList.length := by rw [Array.length_toList]; exact h1
    rw [List.drop_eq_getElem_cons h2]
    have : s.get! i = s.data.toList[i] := by
      have h3 : i < s.data.size := h1
      show s.data[i]! = _
      rw [getElem!_pos s.data i h3]
      simp
    simp [this]
theorem ba_toList (l : List UInt8) : (ByteArray.mk l.toArray).toList = l := by
  have := ba_loop ⟨l.toArray⟩ _ 0 [] rfl
  simpa [ByteArray.toList] using this
def BinRun (P : Program) (op : BinOp) (ty : TypeId) (av bv v : AV) : Prop :=
  ∀ (c : Cx) (x y : Value) (xo yo : Operand), Val c av x → Val c bv y → ∃ cv, (eqGuard op ty xo yo x y).run P c.w = .ok () c.w ∧ (binOp op ty x y).run P c.w = .ok cv c.w ∧ Val c v cv
theorem BinRun.ints {P : Program} {op : BinOp} {ty : TypeId} {k k' : IntKind} {a b : Int} {v : AV}
    (h : ∀ (w : World), NN k [a] → NN k' [b] → ∃ cv, (binOp op ty (.int k a) (.int k' b)).run P w = .ok cv w ∧ ∀ c, Val c v cv) : BinRun P op ty (.int k a) (.int k' b) v := by
  rintro c x y xo yo ⟨rfl, n1⟩ ⟨rfl, n2⟩
  obtain ⟨cv, g1, g2⟩ := h c.w n1 n2
  exact ⟨cv, run_eqGuard _ _ _ _ _ _ _ _ (.inl (by simp)) (.inl (by simp)), g1, g2 c⟩
theorem shift_ok {k' : IntKind} {b : Int} (hb : (k'.signed && decide (b < 0)) = false) (n2 : NN k' [b]) : ¬ b < 0 := by
  intro hlt
  rw [NN1] at n2
  cases hs : k'.signed
  · have := n2 hs; omega
  · simp [hs, hlt] at hb
theorem binE_run {R : Type} {G : Gi} {κ : Kop R} {r : R} {op : BinOp} {ty : TypeId} {av bv : AV} (hne : ∀ k n l, av ≠ .ints k n l) (hni : ∀ k n l, av ≠ .isl k n l) (hna : ∀ l, av ≠ .agg l)
    (h : binE G κ op ty av bv = some r) : ∃ v, κ v [] = some r ∧ BinRun G.P op ty av bv v := by
  unfold binE at h
  split at h
  · rename_i k a k' b
    have arith : ∀ (op : BinOp) (v : AV), op ≠ .shl → op ≠ .shr → k = k' → (∀ (w : World), NN k [a] → NN k [b] → ∃ cv, (match op with
          | .add | .sub | .mul => Op.intArith op k a b
          | .quo | .rem => Op.intDiv op k a b
          | .and | .or | .xor | .andNot => Op.intBits op k a b
          | _ => Op.intCmp op a b).run G.P w = .ok cv w ∧ ∀ c, Val c v cv) → BinRun G.P op ty (.int k a) (.int k' b) v := fun op v n1 n2 hk hv => by
        subst hk
        exact .ints fun w q1 q2 => by rw [run_binOp_int G.P w op ty k a b ⟨n1, n2⟩]; exact hv w q1 q2
    cases op <;> simp only at h
    case shl =>
      obtain ⟨hb, h⟩ := cond_none' h
      exact ⟨_, h, .ints fun w n1 n2 => ⟨.int k (ishl k a b), by simp [binOp, Op.shift, shift_ok hb n2, ishl], fun c => ⟨rfl, ishl_nn _ _ _⟩⟩⟩
    case shr =>
      obtain ⟨hb, h⟩ := cond_none' h
      exact ⟨_, h, .ints fun w n1 n2 => ⟨.int k (ishr k a b), by simp [binOp, Op.shift, shift_ok hb n2, ishr], fun c => ⟨rfl, ishr_nn _ n1⟩⟩⟩
    all_goals
      obtain ⟨hk, h⟩ := cond_none h
      have hk : k = k' := by simpa using hk
    case add => exact ⟨_, h, arith _ _ (by simp) (by simp) hk fun w q1 q2 => ⟨.int k (k.wrap (a + b)), by simp [Op.intArith], fun c => ⟨rfl, wrap_nn _ _⟩⟩⟩
    case sub => exact ⟨_, h, arith _ _ (by simp) (by simp) hk fun w q1 q2 => ⟨.int k (k.wrap (a - b)), by simp [Op.intArith], fun c => ⟨rfl, wrap_nn _ _⟩⟩⟩
    case mul => exact ⟨_, h, arith _ _ (by simp) (by simp) hk fun w q1 q2 => ⟨.int k (k.wrap (a * b)), by simp [Op.intArith], fun c => ⟨rfl, wrap_nn _ _⟩⟩⟩
    case quo =>
      obtain ⟨hb, h⟩ := cond_none' h
      have hb : ¬ b = 0 := by simpa using hb
      exact ⟨_, h, arith _ _ (by simp) (by simp) hk fun w q1 q2 => ⟨.int k (k.wrap (a.tdiv b)), by simp [Op.intDiv, hb], fun c => ⟨rfl, wrap_nn _ _⟩⟩⟩
    case rem =>
      obtain ⟨hb, h⟩ := cond_none' h
      have hb : ¬ b = 0 := by simpa using hb
      exact ⟨_, h, arith _ _ (by simp) (by simp) hk fun w q1 q2 => ⟨.int k (a.tmod b), by simp [Op.intDiv, hb], fun c => ⟨rfl, tmod_nn _ q1⟩⟩⟩
    case and => exact ⟨_, h, arith _ _ (by simp) (by simp) hk fun w q1 q2 => ⟨.int k (iand k a b), by simp [Op.intBits, iand], fun c => ⟨rfl, iand_nn _ _ _⟩⟩⟩
    case or => exact ⟨_, h, arith _ _ (by simp) (by simp) hk fun w q1 q2 => ⟨.int k (ior k a b), by simp [Op.intBits, ior], fun c => ⟨rfl, ior_nn _ _ _⟩⟩⟩
    case xor => exact ⟨_, h, arith _ _ (by simp) (by simp) hk fun w q1 q2 => ⟨.int k (ixor k a b), by simp [Op.intBits, ixor], fun c => ⟨rfl, ixor_nn _ _ _⟩⟩⟩
    case andNot => exact ⟨_, h, arith _ _ (by simp) (by simp) hk fun w q1 q2 => ⟨.int k (iandn k a b), by simp [Op.intBits, iandn], fun c => ⟨rfl, iandn_nn _ _ _⟩⟩⟩
    case eql => exact ⟨_, h, arith _ _ (by simp) (by simp) hk fun w q1 q2 => ⟨.bool (a == b), by simp [Op.intCmp], fun c => rfl⟩⟩
    case neq => exact ⟨_, h, arith _ _ (by simp) (by simp) hk fun w q1 q2 => ⟨.bool (a != b), by simp [Op.intCmp], fun c => rfl⟩⟩
    case lss => exact ⟨_, h, arith _ _ (by simp) (by simp) hk fun w q1 q2 => ⟨.bool (decide (a < b)), by simp [Op.intCmp], fun c => rfl⟩⟩
    case leq => exact ⟨_, h, arith _ _ (by simp) (by simp) hk fun w q1 q2 => ⟨.bool (decide (a ≤ b)), by simp [Op.intCmp], fun c => rfl⟩⟩
    case gtr => exact ⟨_, h, arith _ _ (by simp) (by simp) hk fun w q1 q2 => ⟨.bool (decide (a > b)), by simp [Op.intCmp], fun c => rfl⟩⟩
    case geq => exact ⟨_, h, arith _ _ (by simp) (by simp) hk fun w q1 q2 => ⟨.bool (decide (a ≥ b)), by simp [Op.intCmp], fun c => rfl⟩⟩
  · rename_i a b
    split at h
    · rename_i hu
      refine ⟨_, h, ?_⟩
      rintro c x y xo yo rfl rfl
      refine ⟨.bool (a == b), run_eqGuard _ _ _ _ _ _ _ _ (.inl (by simp)) (.inl (by simp)), ?_, rfl⟩
      simp only [binOp, Sem.run_bind, run_equal_of (run_equalIn_bool hu 9999 a b c.w), Result.andThen_ok, Sem.run_pure]
    · rename_i hu
      refine ⟨_, h, ?_⟩
      rintro c x y xo yo rfl rfl
      refine ⟨.bool (!(a == b)), run_eqGuard _ _ _ _ _ _ _ _ (.inl (by simp)) (.inl (by simp)), ?_, rfl⟩
      simp only [binOp, Sem.run_bind, run_equal_of (run_equalIn_bool hu 9999 a b c.w), Result.andThen_ok, Sem.run_pure]
    · cases h
  · rename_i a b
    split at h
    · refine ⟨_, h, ?_⟩
      rintro c x y xo yo rfl rfl
      refine ⟨.bool (a == b), run_eqGuard _ _ _ _ _ _ _ _ (.inl (by simp)) (.inl (by simp)), ?_, rfl⟩
      simp [binOp, Op.stringOp, ba_toList]
    · refine ⟨_, h, ?_⟩
      rintro c x y xo yo rfl rfl
      refine ⟨.bool (!(a == b)), run_eqGuard _ _ _ _ _ _ _ _ (.inl (by simp)) (.inl (by simp)), ?_, rfl⟩
      simp [binOp, Op.stringOp, ba_toList]
    · obtain ⟨hb, h⟩ := cond_none h
      refine ⟨_, h, ?_⟩
      rintro c x y xo yo rfl rfl
      refine ⟨.string ⟨(a ++ b).toArray⟩, run_eqGuard _ _ _ _ _ _ _ _ (.inl (by simp)) (.inl (by simp)), ?_, rfl⟩
      simp only [decide_eq_true_eq] at hb
      have : ¬ (((ByteArray.mk a.toArray).size + (ByteArray.mk b.toArray).size : Nat) : Int) > IntKind.i64.max := by
        simp [ByteArray.size, IntKind.max, IntKind.bits, IntKind.signed] at hb ⊢; omega
      simp only [binOp, Op.stringOp, if_neg this, Sem.run_pure]
      congr 2
    · cases h
  · rename_i k n l k' n' l'
    exact absurd rfl (hne k n l)
  · rename_i k nl l
    exact absurd rfl (hni k (some nl) l)
  · rename_i l l'
    exact absurd rfl (hna l)
  · cases h
end Go.Ev
namespace Go.Ev
theorem addr_add (a : Addr) (n : Nat) (h : a.spot = none) : a.add n = ⟨a.block, a.off + n, none⟩ := by
  unfold Addr.add
  split
  · subst_vars; cases a; simp_all
  · cases a; simp_all
theorem Val_of_Cells_ag {c : Cx} {v : AV} {cs : List Value} (h : Cells c v cs) (ha : v.ag = true) : Val c v (.agg cs.toArray) := by
  cases v <;> simp [AV.ag] at ha
  · obtain ⟨h1, h2, rfl⟩ := h; exact ⟨h1, h2, rfl⟩
  · exact ⟨cs, h, rfl⟩
theorem Val_of_Cells_leaf {c : Cx} {v : AV} {cs : List Value} (h : Cells c v cs) (ha : v.ag = false) : ∃ x, cs = [x] ∧ Val c v x := by
  cases v <;> simp [AV.ag] at ha
  case tup l => obtain ⟨x, _, g⟩ := h; exact g.elim
  case dead => obtain ⟨x, e, _⟩ := h; exact ⟨x, e, trivial⟩
  all_goals exact h
theorem leaf_cells {c : Cx} {v : AV} {x : Value} (he : c.eps 0 = .nilIface ∧ ∀ n, n ≠ 0 → ∃ T v, c.eps n = .iface T v) (h : leaf c v x) (hb : v.boxable = true) : x.cells = #[x] ∧ x.oneCell' = true := by
  cases v <;> simp [AV.boxable] at hb
  case int k n => obtain ⟨rfl, _⟩ := h; exact ⟨rfl, rfl⟩
  case bool b => obtain rfl := h; exact ⟨rfl, rfl⟩
  case str l => obtain rfl := h; exact ⟨rfl, rfl⟩
  case ints => exact h.elim
  case agg => exact h.elim
  case nils => obtain rfl := h; exact ⟨rfl, rfl⟩
  case isl => obtain ⟨_, a, cap, rfl, _⟩ := h; exact ⟨rfl, rfl⟩
  case rsl => obtain ⟨a, cap, rfl, _⟩ := h; exact ⟨rfl, rfl⟩
  case own id path off len => obtain ⟨a, n, m, rfl⟩ := leaf_own h; exact ⟨rfl, rfl⟩
  case ptr id path => obtain ⟨a, rfl⟩ := leaf_ptr h; exact ⟨rfl, rfl⟩
  case rpi => obtain ⟨_, p, rfl, _⟩ := h; exact ⟨rfl, rfl⟩
  case rps => obtain ⟨p, y, rfl, _⟩ := h; exact ⟨rfl, rfl⟩
  case esl => obtain ⟨a, cap, rfl, _⟩ := h; exact ⟨rfl, rfl⟩
  case asl => obtain ⟨a, n, m, rfl⟩ := leaf_asl h; exact ⟨rfl, rfl⟩
  case rpe => obtain ⟨p, rfl, _⟩ := h; exact ⟨rfl, rfl⟩
  case gsl => obtain ⟨a, cap, rfl, _⟩ := h; exact ⟨rfl, rfl⟩
  case rpg => obtain ⟨p, cs, rfl, _⟩ := h; exact ⟨rfl, rfl⟩
  case cls => obtain ⟨vs, rfl, _⟩ := h; exact ⟨rfl, rfl⟩
  case nilp => obtain rfl := h; exact ⟨rfl, rfl⟩
  case err n =>
    simp only [leaf] at h
    subst h
    by_cases hn : n = 0
    · subst hn; rw [he.1]; exact ⟨rfl, rfl⟩
    · obtain ⟨T, v, hv⟩ := he.2 n hn; rw [hv]; exact ⟨rfl, rfl⟩
  case glo => obtain rfl := h; exact ⟨rfl, rfl⟩
  case fn => obtain rfl := h; exact ⟨rfl, rfl⟩
theorem Val_leaf {c : Cx} {v : AV} {x : Value} (ha : v.ag = false) (ht : ∀ l, v ≠ .tup l) (hd : v ≠ .dead) : Val c v x ↔ leaf c v x := by
  cases v <;> first | exact absurd rfl hd | exact Iff.rfl | (simp [AV.ag] at ha; done) | exact absurd rfl (ht _)
theorem Cells_of_Val {c : Cx} {v : AV} {x : Value} (he : c.eps 0 = .nilIface ∧ ∀ n, n ≠ 0 → ∃ T v, c.eps n = .iface T v) (h : Val c v x) (hb : v.boxable = true) : Cells c v x.cells.toList := by
  cases v
  case ints k n l => obtain ⟨h1, h2, rfl⟩ := h; exact ⟨h1, h2, by simp [Value.cells]⟩
  case agg l => obtain ⟨cs, h1, rfl⟩ := h; simpa [Value.cells, Cells] using h1
  case tup => simp [AV.boxable] at hb
  case dead => simp [AV.boxable] at hb
  all_goals
    have h' := (Val_leaf rfl (by simp) (by simp)).1 h
    have hc := (leaf_cells he h' hb).1
    rw [hc]
    exact ⟨x, rfl, h'⟩
theorem run_isAgg {P : Program} {t : TypeId} (h : (P.underlying t).isSome = true) (w : World) : (isAgg t).run P w = .ok (isAg P t) w := by
  cases hu : P.underlying t with
  | none => simp [hu] at h
  | some d => cases d <;> simp [isAgg, isAg, run_underlying' hu, hu]
theorem run_sizeOf' {P : Program} {t : TypeId} {n : Nat} (h : szIs P t n = true) (w : World) : (sizeOf t).run P w = .ok n w := by
  unfold szIs at h
  split at h
  · rename_i i hi
    have := Nat.eq_of_beq_eq_true h
    simp [sizeOf, typeInfo, hi, this]
  · cases h
theorem fits_ag {P : Program} {t : TypeId} {v : AV} (h : fits P t v = true) : (P.underlying t).isSome = true ∧ isAg P t = v.ag ∧ szIs P t (sh v).len = true := by
  simp only [fits, Bool.and_eq_true, beq_iff_eq] at h
  exact ⟨h.1.1, h.1.2, h.2⟩
theorem run_loadVar' {c : Cx} {P : Program} {t : TypeId} {v : AV} {cs : List Value} {b o : Nat} (hf : fits P t v = true) (hc : Cells c v cs)
    (hm : ∀ i (h : i < cs.length), c.w.cell? ⟨b, o + i, none⟩ = some cs[i]) : ∃ x, (loadVar t ⟨b, o, none⟩).run P c.w = .ok x c.w ∧ Val c v x := by
  obtain ⟨h1, h2, h3⟩ := fits_ag hf
  unfold loadVar
  simp only [Sem.run_bind, run_isAgg h1, Result.andThen_ok]
  cases ha : v.ag with
  | true =>
    rw [ha] at h2
    rw [h2]
    simp only [if_true, Sem.run_bind, run_sizeOf' h3, Result.andThen_ok]
    rw [← Cells_len v cs hc, run_loadCells_list c.w ⟨b, o, none⟩ cs fun j x hj => ?_]
    · exact ⟨_, rfl, Val_of_Cells_ag hc ha⟩
    · rw [addr_add _ _ rfl]
      have hlt : j < cs.length := by
        rcases Nat.lt_or_ge j cs.length with q | q
        · exact q
        · simp [List.getElem?_eq_none q] at hj
      have := hm j hlt
      rw [List.getElem?_eq_getElem hlt] at hj
      rw [this, ← hj]
  | false =>
    rw [ha] at h2
    rw [h2]
    obtain ⟨x, rfl, hx⟩ := Val_of_Cells_leaf hc ha
    have := hm 0 (by simp)
    simp only [Nat.add_zero, List.getElem_cons_zero] at this
    refine ⟨x, ?_, hx⟩
    simp [this]
theorem run_loadAt {P : Program} {t : TypeId} {a : Addr} {w : World} {x : Value} (h : (loadVar t a).run P w = .ok x w) : (Instr.loadAt t (.pointer (some a))).run P w = .ok x w := by
  simp only [Instr.loadAt, Instr.sureAddr, Sem.run_bind, Sem.run_pure, Result.andThen_ok, h]
theorem getElem?_lt {α : Type} {l : List α} {i : Nat} {a : α} (h : l[i]? = some a) : i < l.length := by
  rcases Nat.lt_or_ge i l.length with q | q
  · exact q
  · simp [List.getElem?_eq_none q] at h
theorem Inv.loc {X : Fx} {h : List Blk} {L : List Loc} {w : World} (I : Inv X h L w) {id : Nat} {b : Blk} (hb : h[id]? = some b) : ∃ p, L[id]? = some p := by
  have := getElem?_lt hb
  exact ⟨L[id]'(by rw [I.len]; exact this), List.getElem?_eq_getElem _⟩
theorem cx_S {X : Fx} {h : List Blk} {L : List Loc} {w : World} {id : Nat} {b : Blk} (hb : h[id]? = some b) : (cx X h L w).S[id]? = some b.sh := by
  show (h.map Blk.sh)[id]? = _
  rw [List.getElem?_map, hb]; rfl
theorem ptr_var {X : Fx} {h : List Blk} {L : List Loc} {w : World} (I : Inv X h L w) {id : Nat} {path : List Nat} {v : AV} {x : AV} {pv : Value} (hb : h[id]? = some (.var v)) (hg : getP v path = some x)
    (hv : Val (cx X h L w) (.ptr id path) pv) : ∃ p o s cs, L[id]? = some p ∧ pv = .pointer (some ⟨p.b, p.o + o, none⟩) ∧ Sh.at (sh v) path = some (o, s) ∧ sh x = s ∧ Cells (cx X h L w) x cs ∧
      ∀ i (h : i < cs.length), w.cell? ⟨p.b, p.o + o + i, none⟩ = some cs[i] := by
  obtain ⟨p, hp⟩ := I.loc hb
  have hv' : leaf (cx X h L w) (.ptr id path) pv := hv
  simp only [leaf, cx_S hb, Blk.sh] at hv'
  have hL : (cx X h L w).L[id]? = some p := hp
  rw [hL] at hv'
  obtain ⟨o, s, hat, rfl⟩ := hv'
  obtain ⟨cs, g1, g2⟩ := I.blk id _ p hb hp
  obtain ⟨pre, cx', post, rfl, hpre, q1, q2, _⟩ := Cells_at path v x cs o s g1 hg hat
  refine ⟨p, o, s, cx', hp, rfl, hat, q2, q1, fun i hi => ?_⟩
  have := (g2 (o + i) (by simp [hpre]; omega)).1
  rw [show p.o + o + i = p.o + (o + i) by omega]
  simp only [cx] at this
  rw [this]
  have e : (pre ++ cx' ++ post)[o + i]? = cx'[i]? := by
    rw [List.append_assoc, List.getElem?_append_right (by omega), List.getElem?_append_left (by omega)]
    congr 1; omega
  rw [← List.getElem?_eq_getElem, ← List.getElem?_eq_getElem, e]
theorem ptr_row {X : Fx} {h : List Blk} {L : List Loc} {w : World} (I : Inv X h L w) {id i : Nat} {k : IntKind} {nl : Bool} {l : List Int} {pv : Value} (hb : h[id]? = some (.row k nl l))
    (hv : Val (cx X h L w) (.ptr id [i]) pv) : ∃ p, L[id]? = some p ∧ nl = false ∧ pv = .pointer (some ⟨p.b, p.o + i, none⟩) ∧ i < l.length ∧ NN k l ∧ w.cell? ⟨p.b, p.o + i, none⟩ = some (.int k (l.getD i 0)) ∧
      w.frozen? ⟨p.b, p.o + i, none⟩ = false := by
  obtain ⟨p, hp⟩ := I.loc hb
  have hv' : leaf (cx X h L w) (.ptr id [i]) pv := hv
  simp only [leaf, cx_S hb, Blk.sh] at hv'
  have hL : (cx X h L w).L[id]? = some p := hp
  rw [hL] at hv'
  obtain ⟨hn, j, hj, hlt, rfl⟩ := hv'
  simp only [List.cons.injEq, and_true] at hj
  subst hj
  obtain ⟨g1, g2, g3⟩ := I.blk id _ p hb hp
  obtain ⟨q1, q2, q3⟩ := g3 hn
  refine ⟨p, hp, hn, rfl, hlt, g1, ?_, (q3 i (by omega)).2⟩
  have : w.cell? ⟨p.b, p.o + i, none⟩ = _ := q2 i hlt
  simpa [List.getD, List.getElem?_eq_getElem hlt] using this
theorem ptr_gro {X : Fx} {h : List Blk} {L : List Loc} {w : World} (I : Inv X h L w) {id i : Nat} {t : T} {nl : Bool} {l : List (Den t)} {pv : Value} (hb : h[id]? = some (.gro t nl l))
    (hv : Val (cx X h L w) (.ptr id [i]) pv) : ∃ p cs, L[id]? = some p ∧ nl = false ∧ pv = .pointer (some ⟨p.b, p.o + t.len * i, none⟩) ∧ i < l.length ∧ Fz w (cx X h L w).A t (l.getD i (dflt t)) cs ∧
      ∀ j (g : j < cs.length), w.cell? ⟨p.b, p.o + t.len * i + j, none⟩ = some cs[j] := by
  obtain ⟨p, hp⟩ := I.loc hb
  have hv' : leaf (cx X h L w) (.ptr id [i]) pv := hv
  simp only [leaf, cx_S hb, Blk.sh] at hv'
  have hL : (cx X h L w).L[id]? = some p := hp
  rw [hL] at hv'
  obtain ⟨hn, j, hj, hlt, rfl⟩ := hv'
  simp only [List.cons.injEq, and_true] at hj
  subst hj
  obtain ⟨_, _, g3⟩ := I.blk id _ p hb hp
  obtain ⟨_, q2, _⟩ := g3 hn
  obtain ⟨cs, r1, r2⟩ := q2 i hlt
  have e : l.getD i (dflt t) = l[i] := by simp [List.getD, List.getElem?_eq_getElem hlt]
  exact ⟨p, cs, hp, hn, rfl, hlt, by rw [e]; exact r1, r2⟩
def lookOk (look : Nat → Blk) (h : List Blk) : Prop := ∀ id, look id ≠ .rsv → h[id]? = some (look id)
theorem lookOk.get {look : Nat → Blk} {h : List Blk} (hl : lookOk look h) {id : Nat} {b : Blk} (hb : look id = b) (hn : b ≠ .rsv) : h[id]? = some b := by
  have := hl id (by rw [hb]; exact hn)
  rw [this, hb]
theorem getD_mem {l : List Int} {i : Nat} (h : i < l.length) : l.getD i 0 ∈ l := by
  simp [List.getD, List.getElem?_eq_getElem h]
theorem loadE_run {R : Type} {G : Gi} {κ : Kop R} {r : R} {look : Nat → Blk} {t : TypeId} {av : AV} (h0 : loadE G look κ t av = some r) :
    ∃ v, κ v [] = some r ∧ ∀ (X : Fx) h L w x, X.G = G → Inv X h L w → lookOk look h → Val (cx X h L w) av x → ∃ cv, (Instr.loadAt t x).run G.P w = .ok cv w ∧ Val (cx X h L w) v cv := by
  unfold loadE at h0
  split at h0
  · rename_i id path
    split at h0
    · rename_i v hv
      split at h0
      · rename_i x hx
        obtain ⟨hf, h0⟩ := cond_none h0
        refine ⟨x, h0, fun X h L w pv hG I hl hp => ?_⟩
        obtain ⟨p, o, s, cs, _, rfl, _, _, hc, hm⟩ := ptr_var I (hl.get hv (by simp)) hx hp
        obtain ⟨cv, g1, g2⟩ := run_loadVar' (c := cx X h L w) hf hc hm
        exact ⟨cv, run_loadAt g1, g2⟩
      · cases h0
    · rename_i k nl l hv
      split at h0
      · rename_i i
        obtain ⟨hf, h0⟩ := cond_none h0
        refine ⟨_, h0, fun X h L w pv hG I hl hp => ?_⟩
        obtain ⟨p, _, _, rfl, hlt, hnn, hc, _⟩ := ptr_row I (hl.get hv (by simp)) hp
        have hf' : fits G.P t (.int k (l.getD i 0)) = true := hf
        obtain ⟨cv, g1, g2⟩ := run_loadVar' (c := cx X h L w) (cs := [.int k (l.getD i 0)]) (b := p.b) (o := p.o + i) hf' ⟨_, rfl, rfl, fun hk y hy => by
          rw [List.mem_singleton] at hy; subst hy; exact hnn hk _ (getD_mem hlt)⟩ (fun j hj => by
            have : j = 0 := by simp at hj; omega
            subst this; exact hc)
        exact ⟨cv, run_loadAt g1, g2⟩
      · cases h0
    · rename_i te nl l hv
      split at h0
      · rename_i i
        obtain ⟨hf, h0⟩ := cond_none h0
        refine ⟨_, h0, fun X h L w pv hG I hl hp => ?_⟩
        obtain ⟨p, cs, _, _, rfl, hlt, hz, hm⟩ := ptr_gro I (hl.get hv (by simp)) hp
        obtain ⟨cv, g1, g2⟩ := run_loadVar' (c := cx X h L w) hf (Fz_Cells (c := cx X h L w) te _ cs hz) hm
        exact ⟨cv, run_loadAt g1, g2⟩
      · cases h0
    · cases h0
  · rename_i te y
    obtain ⟨hf, h0⟩ := cond_none h0
    refine ⟨_, h0, fun X h L w pv hG I hl hp => ?_⟩
    obtain ⟨p, cs, rfl, hs, hz, hm⟩ := hp
    obtain ⟨cv, g1, g2⟩ := run_loadVar' (c := cx X h L w) (b := p.block) (o := p.off) hf (Fz_Cells (c := cx X h L w) te _ cs hz) (fun j hj => (hm j hj).1)
    have : p = ⟨p.block, p.off, none⟩ := by cases p; simp_all
    rw [← this] at g1
    exact ⟨cv, run_loadAt g1, g2⟩
  · rename_i k n
    obtain ⟨hf, h0⟩ := cond_none h0
    refine ⟨_, h0, fun X h L w pv hG I hl hp => ?_⟩
    obtain ⟨hnn, p, rfl, hs, hc, _⟩ := hp
    obtain ⟨cv, g1, g2⟩ := run_loadVar' (c := cx X h L w) (cs := [.int k n]) (b := p.block) (o := p.off) hf ⟨_, rfl, rfl, hnn⟩ (fun j hj => by
            have : j = 0 := by simp at hj; omega
            subst this; exact hc)
    have : p = ⟨p.block, p.off, none⟩ := by cases p; simp_all
    rw [← this] at g1
    exact ⟨cv, run_loadAt g1, g2⟩
  · rename_i k l
    obtain ⟨hf, h0⟩ := cond_none h0
    refine ⟨_, h0, fun X h L w pv hG I hl hp => ?_⟩
    obtain ⟨p, y, rfl, hs, hc, _, hsl⟩ := hp
    have hf' : fits G.P t (.isl k none l) = true := hf
    obtain ⟨cv, g1, g2⟩ := run_loadVar' (c := cx X h L w) (cs := [y]) (b := p.block) (o := p.off) hf' ⟨_, rfl, hsl⟩ (fun j hj => by
            have : j = 0 := by simp at hj; omega
            subst this; exact hc)
    have : p = ⟨p.block, p.off, none⟩ := by cases p; simp_all
    rw [← this] at g1
    exact ⟨cv, run_loadAt g1, g2⟩
  · rename_i n
    obtain ⟨hf, h0⟩ := cond_none h0
    refine ⟨_, h0, fun X h L w pv hG I hl hp => ?_⟩
    obtain ⟨p, rfl, hs, hc, _⟩ := hp
    obtain ⟨cv, g1, g2⟩ := run_loadVar' (c := cx X h L w) (cs := [X.eps n]) (b := p.block) (o := p.off) hf ⟨_, rfl, rfl⟩ (fun j hj => by
            have : j = 0 := by simp at hj; omega
            subst this; exact hc)
    have : p = ⟨p.block, p.off, none⟩ := by cases p; simp_all
    rw [← this] at g1
    exact ⟨cv, run_loadAt g1, g2⟩
  · rename_i g
    split at h0
    · rename_i v hv
      obtain ⟨hf, h0⟩ := cond_none h0
      refine ⟨_, h0, fun X h L w pv hG I hl hp => ?_⟩
      obtain rfl := hp
      obtain ⟨cs, hc, hm⟩ := I.glb g v (by rw [hG]; exact hv)
      obtain ⟨cv, g1, g2⟩ := run_loadVar' (c := cx X h L w) (b := g) (o := 0) hf hc (fun i hi => by rw [Nat.zero_add]; exact (hm i hi).1)
      exact ⟨cv, run_loadAt g1, g2⟩
    · cases h0
  · cases h0
end Go.Ev
namespace Go.Ev
theorem lenL_take (l : List AV) (f : Nat) : Sh.lenL ((shL l).take f) = Sh.lenL (shL (l.take f)) := by simp [shL_eq, List.map_take]
theorem at_append : ∀ (p : List Nat) (s : Sh) (o : Nat) (l : List Sh) (f : Nat) (t : Sh), Sh.at s p = some (o, .agg l) → l[f]? = some t → Sh.at s (p ++ [f]) = some (o + Sh.lenL (l.take f), t) := by
  intro p
  induction p with
  | nil =>
    intro s o l f t h hf
    have : s = .agg l ∧ o = 0 := by cases s <;> simp_all [Sh.at]
    obtain ⟨rfl, rfl⟩ := this
    simp [Sh.at, hf]
  | cons i p ih =>
    intro s o l f t h hf
    cases s with
    | leaf => simp [Sh.at] at h
    | ints n =>
      cases p with
      | nil => simp only [Sh.at] at h; split at h <;> simp at h
      | cons => simp [Sh.at] at h
    | agg m =>
      simp only [Sh.at, List.cons_append] at h ⊢
      cases hm : m[i]? with
      | none => simp [hm] at h
      | some s0 =>
        simp only [hm] at h ⊢
        cases ha : Sh.at s0 p with
        | none => simp [ha] at h
        | some x =>
          obtain ⟨o', s'⟩ := x
          simp only [ha, Option.some.injEq, Prod.mk.injEq] at h
          obtain ⟨rfl, rfl⟩ := h
          rw [ih s0 o' l f t ha hf]
          simp [Nat.add_assoc]
theorem at_append_ints : ∀ (p : List Nat) (s : Sh) (o n i : Nat), Sh.at s p = some (o, .ints n) → i < n → Sh.at s (p ++ [i]) = some (o + i, .leaf) := by
  intro p
  induction p with
  | nil =>
    intro s o n i h hi
    have : s = .ints n ∧ o = 0 := by cases s <;> simp_all [Sh.at]
    obtain ⟨rfl, rfl⟩ := this
    simp [Sh.at, hi]
  | cons j p ih =>
    intro s o n i h hi
    cases s with
    | leaf => simp [Sh.at] at h
    | ints m =>
      cases p with
      | nil => simp only [Sh.at] at h; split at h <;> simp at h
      | cons => simp [Sh.at] at h
    | agg m =>
      simp only [Sh.at, List.cons_append] at h ⊢
      cases hm : m[j]? with
      | none => simp [hm] at h
      | some s0 =>
        simp only [hm] at h ⊢
        cases ha : Sh.at s0 p with
        | none => simp [ha] at h
        | some x =>
          obtain ⟨o', s'⟩ := x
          simp only [ha, Option.some.injEq, Prod.mk.injEq] at h
          obtain ⟨rfl, rfl⟩ := h
          rw [ih s0 o' n i ha hi]
          simp [Nat.add_assoc]
theorem ptr_at {X : Fx} {h : List Blk} {L : List Loc} {w : World} (I : Inv X h L w) {id : Nat} {path : List Nat} {v : AV} {pv : Value} (hb : h[id]? = some (.var v))
    (hv : Val (cx X h L w) (.ptr id path) pv) : ∃ p o s, L[id]? = some p ∧ pv = .pointer (some ⟨p.b, p.o + o, none⟩) ∧ Sh.at (sh v) path = some (o, s) := by
  obtain ⟨p, hp⟩ := I.loc hb
  have hv' : leaf (cx X h L w) (.ptr id path) pv := hv
  simp only [leaf, cx_S hb, Blk.sh] at hv'
  have hL : (cx X h L w).L[id]? = some p := hp
  rw [hL] at hv'
  obtain ⟨o, s, hat, rfl⟩ := hv'
  exact ⟨p, o, s, hp, rfl, hat⟩
theorem ptr_mk {X : Fx} {h : List Blk} {L : List Loc} {w : World} {id : Nat} {path : List Nat} {v : AV} {p : Loc} {o : Nat} {s : Sh} (hb : h[id]? = some (.var v)) (hp : L[id]? = some p)
    (hat : Sh.at (sh v) path = some (o, s)) : Val (cx X h L w) (.ptr id path) (.pointer (some ⟨p.b, p.o + o, none⟩)) := by
  rw [Val_leaf rfl (by simp) (by simp)]
  simp only [leaf, cx_S hb, Blk.sh]
  have hL : (cx X h L w).L[id]? = some p := hp
  rw [hL]
  exact ⟨o, s, hat, rfl⟩
theorem sh_getP : ∀ (p : List Nat) (v x : AV) (o : Nat) (s : Sh), getP v p = some x → Sh.at (sh v) p = some (o, s) → sh x = s := by
  intro p
  induction p with
  | nil =>
    intro v x o s h1 h2
    have : x = v := by cases v <;> simp_all [getP]
    subst this
    cases hx : sh x <;> simp_all [Sh.at]
  | cons i p ih =>
    intro v x o s h1 h2
    cases v with
    | ints k n l =>
      cases p with
      | nil =>
        simp only [getP, Option.some.injEq] at h1
        subst h1
        simp only [sh, Sh.at] at h2
        split at h2 <;> simp at h2
        exact h2.2
      | cons => simp [getP] at h1
    | agg l =>
      simp only [getP] at h1
      simp only [sh, Sh.at, shL_eq, List.getElem?_map] at h2
      cases hv : l[i]? with
      | none => simp [hv] at h1
      | some v0 =>
        simp only [hv] at h1
        simp only [hv, Option.map_some] at h2
        cases hat : Sh.at (sh v0) p with
        | none => simp [hat] at h2
        | some os =>
          simp only [hat, Option.some.injEq, Prod.mk.injEq] at h2
          exact ih v0 x os.1 s h1 (by rw [← h2.2]; exact hat)
    | _ => simp [getP] at h1
theorem fieldAddrE_run {R : Type} {G : Gi} {κ : Kop R} {r : R} {look : Nat → Blk} {t : TypeId} {av : AV} {f : Nat} (h0 : fieldAddrE G look κ t av f = some r) :
    ∃ v, κ v [] = some r ∧ ∀ (X : Fx) h L w x, X.G = G → Inv X h L w → lookOk look h → Val (cx X h L w) av x → ∃ cv, (Instr.fieldAt t x f).run G.P w = .ok cv w ∧ Val (cx X h L w) v cv := by
  unfold fieldAddrE at h0
  split at h0
  · rename_i id path
    split at h0
    · rename_i v hv
      split at h0
      · rename_i l fs hg hu
        split at h0
        · rename_i fd hfd
          split at h0
          · rename_i i hi
            obtain ⟨hc, h0⟩ := cond_none h0
            simp only [Bool.and_eq_true, Bool.not_eq_true'] at hc
            obtain ⟨⟨c1, c2⟩, c3⟩ := hc
            have c2 : f < l.length := by simpa [Nat.blt_eq] using c2
            have c3 := Nat.eq_of_beq_eq_true c3
            refine ⟨_, h0, fun X h L w pv hG I hl hp => ?_⟩
            have hb := hl.get hv (by simp)
            obtain ⟨p, o, s, hp', rfl, hat⟩ := ptr_at I hb hp
            have hs := sh_getP _ _ _ _ _ hg hat
            have hs' : s = .agg (shL l) := by rw [← hs]; rfl
            subst hs'
            have hat2 := at_append path (sh v) o (shL l) f (sh l[f]) hat (by rw [shL_eq]; simp [c2])
            refine ⟨_, ?_, ptr_mk hb hp' hat2⟩
            have hsz : i.size ≠ 0 := by
              intro hz; rw [hz] at c1; simp at c1
            simp only [Instr.fieldAt, Sem.run_bind, run_underlying' hu, Result.andThen_ok, Instr.sureAddr, fieldPlace]
            simp only [hfd, Sem.run_bind, Sem.run_pure, Result.andThen_ok]
            simp only [sizeOf, typeInfo, Sem.run_bind, run_program, Result.andThen_ok, hi, Sem.run_pure, hsz, if_false, Sem.run_ite]
            rw [addr_add _ _ rfl, c3]
            simp [Nat.add_assoc]
          · cases h0
        · cases h0
      · cases h0
    · cases h0
  · rename_i ts x
    split at h0
    · rename_i fs hu
      split at h0
      · rename_i fd hfd
        split at h0
        · rename_i i o y hi hf
          obtain ⟨hc, h0⟩ := cond_none h0
          simp only [Bool.and_eq_true, Bool.not_eq_true'] at hc
          obtain ⟨c1, c3⟩ := hc
          have c3 := Nat.eq_of_beq_eq_true c3
          refine ⟨_, h0, fun X h L w pv hG I hl hp => ?_⟩
          obtain ⟨p, cs, rfl, hs, g1, g2⟩ : IsRp (cx X h L w) (.st ts) x pv := hp
          obtain ⟨a, b, c, rfl, ha, g3⟩ := fldT_ok ts x f o y cs hf g1
          have hsz : i.size ≠ 0 := by
            intro hz; rw [hz] at c1; simp at c1
          refine ⟨.pointer (some ⟨p.block, p.off + o, none⟩), ?_, ⟨p.block, p.off + o, none⟩, b, rfl, rfl, g3, fun j hj => ?_⟩
          · simp only [Instr.fieldAt, Sem.run_bind, run_underlying' hu, Result.andThen_ok, Instr.sureAddr, fieldPlace]
            simp only [hfd, Sem.run_bind, Sem.run_pure, Result.andThen_ok]
            simp only [sizeOf, typeInfo, Sem.run_bind, run_program, Result.andThen_ok, hi, Sem.run_pure, hsz, if_false, Sem.run_ite]
            rw [addr_add _ _ hs, c3]
          · have q := g2 (a.length + j) (by simp; omega)
            have e : (a ++ (b ++ c))[a.length + j]'(by simp; omega) = b[j] := by
              rw [List.getElem_append_right (by omega), List.getElem_append_left (by simpa using hj)]
              simp
            rw [e, ha, ← Nat.add_assoc] at q
            exact q
        · cases h0
      · cases h0
    · cases h0
  · cases h0
theorem nilE_run {R : Type} {κ : Kop R} {r : R} {av : AV} (h0 : nilE κ av = some r) : κ av [] = some r ∧ ∀ c x, Val c av x → ∃ a, x = .pointer (some a) := by
  unfold nilE at h0
  split at h0
  · exact ⟨h0, fun c x hx => leaf_ptr hx⟩
  · exact ⟨h0, fun c x hx => by obtain ⟨_, p, rfl, _⟩ := hx; exact ⟨p, rfl⟩⟩
  · exact ⟨h0, fun c x hx => by obtain ⟨p, y, rfl, _⟩ := hx; exact ⟨p, rfl⟩⟩
  · exact ⟨h0, fun c x hx => by obtain ⟨p, rfl, _⟩ := hx; exact ⟨p, rfl⟩⟩
  · exact ⟨h0, fun c x hx => by obtain ⟨p, cs, rfl, _⟩ := hx; exact ⟨p, rfl⟩⟩
  · exact ⟨h0, fun c x hx => by obtain rfl := hx; exact ⟨_, rfl⟩⟩
  · cases h0
theorem arrPE_run {R : Type} {G : Gi} {κ : Kop R} {r : R} {t : TypeId} {av : AV} (h0 : arrPE G κ t av = some r) :
    ∃ v, κ v [] = some r ∧ ∀ (c : Cx) x, Val c av x → ∃ cv, (Instr.arrayAt t x).run G.P c.w = .ok cv c.w ∧ Val c v cv := by
  unfold arrPE at h0
  split at h0
  · rename_i n e k z l hu
    obtain ⟨hc, h0⟩ := cond_none h0
    simp only [Bool.and_eq_true] at hc
    have c1 : 0 < n := Nat.le_of_ble_eq_true hc.1
    have c2 : n ≤ l.length := Nat.le_of_ble_eq_true hc.2
    refine ⟨_, h0, fun c x hx => ?_⟩
    obtain ⟨hn, a, cap, rfl, _, _, q2, q3⟩ : IsSl c.w c.A k z l x := hx
    cases a with
    | none =>
      obtain ⟨rfl, _⟩ := q2 rfl
      simp at c2
      omega
    | some p =>
      obtain ⟨s1, s2⟩ := q3 p rfl
      have hne : l ≠ [] := by rintro rfl; simp at c2; omega
      have hnl : ¬ l.length < n := by omega
      refine ⟨.pointer (some p), ?_, p, (l.take n).map (Value.int k), rfl, s1 hne, ⟨?_, ?_, rfl⟩, fun j hj => ?_⟩
      · simp only [Instr.arrayAt, Sem.run_bind, run_underlying' hu, Result.andThen_ok, hnl, if_false, Sem.run_pure]
      · show (l.take n).length = n
        rw [List.length_take]; omega
      · exact fun hk y hy => hn hk y (List.mem_of_mem_take hy)
      · have hj' : j < (l.take n).length := by simpa using hj
        have hjl : j < l.length := by rw [List.length_take] at hj'; omega
        obtain ⟨r1, r2⟩ := s2 j hjl
        refine ⟨?_, r2⟩
        rw [r1]
        simp
  · cases h0
theorem fieldE_run {R : Type} {G : Gi} {κ : Kop R} {r : R} {t : TypeId} {av : AV} {f : Nat} (h0 : fieldE G κ t av f = some r) :
    ∃ v, κ v [] = some r ∧ ∀ (c : Cx) x, Val c av x → ∃ cv, (Instr.field t x f).run G.P c.w = .ok cv c.w ∧ Val c v cv := by
  unfold fieldE at h0
  split at h0
  · rename_i l
    split at h0
    · rename_i fs hu
      split at h0
      · rename_i fd v hfd hv
        obtain ⟨hc, h0⟩ := cond_none h0
        simp only [Bool.and_eq_true] at hc
        obtain ⟨c1, c2⟩ := hc
        have c2 := Nat.eq_of_beq_eq_true c2
        refine ⟨_, h0, fun c x hx => ?_⟩
        obtain ⟨cs, hcs, rfl⟩ := hx
        obtain ⟨hl, hi⟩ := list_split l f v hv
        rw [hl, CellsL_append] at hcs
        obtain ⟨a1, a2, rfl, g1, a3, a4, rfl, g2, g3⟩ := hcs
        have hlen := CellsL_len _ _ g1
        rw [← lenL_take] at hlen
        obtain ⟨f1, f2, f3⟩ := fits_ag c1
        simp only [Instr.field, Sem.run_bind, run_underlying' hu, Result.andThen_ok, hfd, asAgg, Sem.run_pure, part, run_isAgg f1]
        have hoff : fd.offset = a1.length := by rw [c2, hlen]
        cases ha : v.ag with
        | true =>
          rw [ha] at f2
          simp only [f2, if_true, Sem.run_bind, run_sizeOf' f3, Result.andThen_ok, Sem.run_pure]
          refine ⟨_, rfl, ?_⟩
          have : (a1 ++ (a3 ++ a4)).toArray.extract fd.offset (fd.offset + (sh v).len) = a3.toArray := by
            rw [hoff, ← Cells_len v a3 g2]
            simp
          rw [this]
          exact Val_of_Cells_ag g2 ha
        | false =>
          rw [ha] at f2
          obtain ⟨y, rfl, hy⟩ := Val_of_Cells_leaf g2 ha
          have : (a1 ++ ([y] ++ a4)).toArray[fd.offset]? = some y := by rw [hoff]; simp
          simp only [f2, Bool.false_eq_true, if_false, this, Sem.run_pure]
          exact ⟨y, rfl, hy⟩
      · cases h0
    · cases h0
  · cases h0
theorem indexE_run {R : Type} {G : Gi} {κ : Kop R} {r : R} {t : TypeId} {av iv : AV} (h0 : indexE G κ t av iv = some r) :
    ∃ v, κ v [] = some r ∧ ∀ (c : Cx) x y, Val c av x → Val c iv y → ∃ cv, (Instr.index t x y).run G.P c.w = .ok cv c.w ∧ Val c v cv := by
  unfold indexE at h0
  split at h0
  · rename_i k i
    split at h0
    · rename_i n e k' m l hu
      obtain ⟨hc, h1⟩ := cond_none h0
      obtain ⟨hi, h2⟩ := cond_none h1
      obtain ⟨hj, h3⟩ := cond_none h2
      clear h0 h1 h2
      simp only [Bool.and_eq_true, Bool.not_eq_true'] at hc
      obtain ⟨⟨⟨c1, c2⟩, c3⟩, c4⟩ := hc
      have c4 := Nat.eq_of_beq_eq_true c4
      subst c4
      have hi : 0 ≤ i := by simpa using hi
      have hj : i < n := by simpa using hj
      refine ⟨_, h3, fun c x y hx hy => ?_⟩
      obtain ⟨rfl, _⟩ := hy
      obtain ⟨hl, hnn, rfl⟩ := hx
      have hlt : i.toNat < l.length := by omega
      simp only [Instr.index, asIntOf, Sem.run_bind, Sem.run_pure, Result.andThen_ok, run_underlying' hu]
      rw [if_pos ⟨hi, hj⟩]
      simp only [Sem.run_bind, run_sizeOf' c1, Result.andThen_ok, Nat.mul_one, part, run_isAgg c2, c3, Bool.false_eq_true, if_false]
      have : (l.map (Value.int k')).toArray[i.toNat]? = some (.int k' (l.getD i.toNat 0)) := by
        simp [List.getElem?_eq_getElem hlt, List.getD]
      simp only [this, Sem.run_pure]
      exact ⟨_, rfl, rfl, fun hk z hz => by rw [List.mem_singleton] at hz; subst hz; exact hnn hk _ (getD_mem hlt)⟩
    · rename_i l hu
      obtain ⟨hi, h0⟩ := cond_none h0
      obtain ⟨hj, h0⟩ := cond_none h0
      have hi : 0 ≤ i := by simpa using hi
      have hj : i < l.length := by simpa using hj
      refine ⟨_, h0, fun c x y hx hy => ?_⟩
      obtain ⟨rfl, _⟩ := hy
      obtain rfl := hx
      have hlt : i.toNat < l.length := by omega
      have hs : (ByteArray.mk l.toArray)[i.toNat]? = some (l.getD i.toNat 0) := by
        have hz : i.toNat < (ByteArray.mk l.toArray).size := by simpa [ByteArray.size] using hlt
        rw [getElem?_pos (ByteArray.mk l.toArray) i.toNat hz]
        simp [List.getD, List.getElem?_eq_getElem hlt, ByteArray.getElem_eq_getElem_data]
      simp only [Instr.index, asIntOf, Sem.run_bind, Sem.run_pure, Result.andThen_ok, run_underlying' hu, if_pos hi, hs]
      exact ⟨_, rfl, rfl, fun _ z hz => by rw [List.mem_singleton] at hz; subst hz; exact Int.natCast_nonneg _⟩
    · cases h0
  · cases h0
theorem extractE_run {R : Type} {κ : Kop R} {r : R} {P : Program} {av : AV} {i : Nat} (h0 : extractE κ av i = some r) :
    ∃ v, κ v [] = some r ∧ ∀ (c : Cx) x, Val c av x → ∃ cv, (Instr.extract x i).run P c.w = .ok cv c.w ∧ Val c v cv := by
  unfold extractE at h0
  split at h0
  · rename_i l
    split at h0
    · rename_i v hv
      refine ⟨_, h0, fun c x hx => ?_⟩
      obtain ⟨vs, hvs, rfl⟩ := hx
      have key : ∀ (l : List AV) (vs : List Value) (i : Nat), ValL c l vs → l[i]? = some v → ∃ y, vs[i]? = some y ∧ Val c v y := by
        intro l
        induction l with
        | nil => intro vs i _ h; simp at h
        | cons u l ih =>
          rintro _ i ⟨y, r, rfl, g1, g2⟩ h
          cases i with
          | zero => simp at h; subst h; exact ⟨y, rfl, g1⟩
          | succ i => simpa using ih r i g2 (by simpa using h)
      obtain ⟨y, q1, q2⟩ := key l vs i hvs hv
      refine ⟨y, ?_, q2⟩
      simp [Instr.extract, q1]
    · cases h0
  · cases h0
theorem unE_run {R : Type} {κ : Kop R} {r : R} {P : Program} {op : UnOp} {av : AV} (h0 : unE κ op av = some r) :
    ∃ v, κ v [] = some r ∧ ∀ (c : Cx) x, Val c av x → ∃ cv, (Op.unary op x).run P c.w = .ok cv c.w ∧ Val c v cv := by
  unfold unE at h0
  split at h0
  · refine ⟨_, h0, fun c x hx => ?_⟩
    obtain ⟨rfl, _⟩ := hx
    exact ⟨_, by simp only [Op.unary, Op.intArith, Sem.run_pure], rfl, wrap_nn _ _⟩
  · refine ⟨_, h0, fun c x hx => ?_⟩
    obtain ⟨rfl, _⟩ := hx
    exact ⟨.int _ (inot _ _), by simp only [Op.unary, Op.intBits, Sem.run_pure]; rfl, rfl, inot_nn _ _⟩
  · refine ⟨_, h0, fun c x hx => ?_⟩
    obtain rfl := hx
    exact ⟨_, by simp only [Op.unary, Sem.run_pure], rfl⟩
  · cases h0
def Conts (w : World) (k : IntKind) (l : List Int) (x : Value) : Prop :=
  NN k l ∧ ∃ a cap, x = .slice a l.length cap ∧ l.length ≤ cap ∧ (a = none → l = []) ∧ ∀ p : Addr, a = some p → ∀ i (hi : i < l.length), p.spot = none ∧ w.cell? ⟨p.block, p.off + i, none⟩ = some (.int k l[i])
theorem own_row {X : Fx} {h : List Blk} {L : List Loc} {w : World} (I : Inv X h L w) {id off : Nat} {len : Option Nat} {k : IntKind} {nl : Bool} {l : List Int} {x : Value} (hb : h[id]? = some (.row k nl l))
    (hv : Val (cx X h L w) (.own id [] off len) x) : ∃ p, L[id]? = some p ∧ off + olen len l.length off ≤ l.length ∧ (nl = true → (∃ a, x = .slice a 0 0) ∧ l = []) ∧
      (nl = false → ∃ q : Addr, x = .slice (some q) (olen len l.length off) (p.cap - off) ∧ (q.block = p.b ∧ q.spot = none) ∧ (off < p.cap → q = ⟨p.b, p.o + off, none⟩)) := by
  obtain ⟨p, hp⟩ := I.loc hb
  have hv' := (Val_leaf rfl (by simp) (by simp)).1 hv
  simp only [leaf, cx_S hb, Blk.sh] at hv'
  have hL : (cx X h L w).L[id]? = some p := hp
  rw [hL] at hv'
  obtain ⟨_, h1, h2⟩ := hv'
  refine ⟨p, hp, h1, fun hn => ?_, fun hn => ?_⟩
  · subst hn
    simp only [if_true] at h2
    exact ⟨h2.1, List.length_eq_zero_iff.1 h2.2⟩
  · subst hn
    simpa using h2
theorem own_gro {X : Fx} {h : List Blk} {L : List Loc} {w : World} (I : Inv X h L w) {id off : Nat} {path : List Nat} {len : Option Nat} {t : T} {nl : Bool} {l : List (Den t)} {x : Value} (hb : h[id]? = some (.gro t nl l))
    (hv : Val (cx X h L w) (.own id path off len) x) : ∃ p, L[id]? = some p ∧ path = [] ∧ off + olen len l.length off ≤ l.length ∧ (nl = true → (∃ a, x = .slice a 0 0) ∧ l = []) ∧
      (nl = false → ∃ q : Addr, x = .slice (some q) (olen len l.length off) (p.cap / t.len - off) ∧ (q.block = p.b ∧ q.spot = none) ∧ (off < p.cap / t.len → q = ⟨p.b, p.o + t.len * off, none⟩)) := by
  obtain ⟨p, hp⟩ := I.loc hb
  have hv' := (Val_leaf rfl (by simp) (by simp)).1 hv
  simp only [leaf, cx_S hb, Blk.sh] at hv'
  have hL : (cx X h L w).L[id]? = some p := hp
  rw [hL] at hv'
  obtain ⟨h0, h1, h2⟩ := hv'
  refine ⟨p, hp, h0, h1, fun hn => ?_, fun hn => ?_⟩
  · subst hn
    simp only [if_true] at h2
    exact ⟨h2.1, List.length_eq_zero_iff.1 h2.2⟩
  · subst hn
    simpa using h2
def FzR (w : World) (A : Nat → Nat → Prop) (t : T) : List (Den t) → List Value → Prop
  | [], cs => cs = []
  | x :: l, cs => ∃ c1 c2, cs = c1 ++ c2 ∧ Fz w A t x c1 ∧ FzR w A t l c2
theorem FzR_len {w : World} {A : Nat → Nat → Prop} {t : T} : ∀ {l : List (Den t)} {cs : List Value}, FzR w A t l cs → cs.length = t.len * l.length
  | [], _, h => by obtain rfl := h; rfl
  | x :: l, _, ⟨c1, c2, e, g1, g2⟩ => by
    subst e
    rw [List.length_append, Fz_len t x c1 g1, FzR_len g2, List.length_cons, Nat.mul_succ]; omega
theorem FzR_append {w : World} {A : Nat → Nat → Prop} {t : T} : ∀ {l m : List (Den t)} {cs ds : List Value}, FzR w A t l cs → FzR w A t m ds → FzR w A t (l ++ m) (cs ++ ds)
  | [], _, _, _, h, k => by obtain rfl := h; exact k
  | x :: l, m, _, ds, ⟨c1, c2, e, g1, g2⟩, k => ⟨c1, c2 ++ ds, by subst e; simp, g1, FzR_append g2 k⟩
theorem FzR_get {w : World} {A : Nat → Nat → Prop} {t : T} : ∀ {l : List (Den t)} {cs : List Value}, FzR w A t l cs → ∀ i (hi : i < l.length), ∃ c, Fz w A t l[i] c ∧ ∀ j (hj : j < c.length), cs[t.len * i + j]? = some c[j]
  | [], _, _, i, hi => by simp at hi
  | x :: l, _, ⟨c1, c2, e, g1, g2⟩, 0, _ => by
    subst e
    refine ⟨c1, g1, fun j hj => ?_⟩
    rw [Nat.mul_zero, Nat.zero_add, List.getElem?_append_left hj, List.getElem?_eq_getElem hj]
  | x :: l, _, ⟨c1, c2, e, g1, g2⟩, i + 1, hi => by
    subst e
    obtain ⟨c, q1, q2⟩ := FzR_get g2 i (by simpa using hi)
    refine ⟨c, by simpa using q1, fun j hj => ?_⟩
    have hl := Fz_len t x c1 g1
    rw [Nat.mul_succ, List.getElem?_append_right (by omega), show t.len * i + t.len + j - c1.length = t.len * i + j by omega]
    exact q2 j hj
theorem FzR_of {w : World} {A : Nat → Nat → Prop} {t : T} (f : Nat → Option Value) : ∀ (l : List (Den t)) (o : Nat), (∀ i (hi : i < l.length), ∃ c, Fz w A t l[i] c ∧ ∀ j (hj : j < c.length), f (o + t.len * i + j) = some c[j]) →
    ∃ cs, FzR w A t l cs ∧ ∀ j (hj : j < cs.length), f (o + j) = some cs[j]
  | [], _, _ => ⟨[], rfl, fun j hj => by simp at hj⟩
  | x :: l, o, h => by
    obtain ⟨c, q1, q2⟩ := h 0 (by simp)
    have hl := Fz_len t _ c q1
    obtain ⟨cs, r1, r2⟩ := FzR_of f l (o + t.len) (fun i hi => by
      obtain ⟨c', s1, s2⟩ := h (i + 1) (by simpa using hi)
      refine ⟨c', by simpa using s1, fun j hj => ?_⟩
      have := s2 j hj
      rw [Nat.mul_succ] at this
      rw [show o + t.len + t.len * i + j = o + (t.len * i + t.len) + j by omega]
      exact this)
    refine ⟨c ++ cs, ⟨c, cs, rfl, q1, r1⟩, fun j hj => ?_⟩
    rcases Nat.lt_or_ge j c.length with q | q
    · have := q2 j q
      rw [Nat.mul_zero, Nat.add_zero] at this
      rw [this, List.getElem_append_left q]
    · have := r2 (j - c.length) (by simp at hj; omega)
      rw [List.getElem_append_right q, ← this]
      congr 1; omega
theorem FzR_le {c c' : Cx} (h : c.Le c') {t : T} : ∀ {l : List (Den t)} {cs : List Value}, FzR c.w c.A t l cs → FzR c'.w c'.A t l cs
  | [], _, g => g
  | x :: _, _, ⟨c1, c2, e, g1, g2⟩ => ⟨c1, c2, e, Fz.le h t x c1 g1, FzR_le h g2⟩
def ContsG (w : World) (A : Nat → Nat → Prop) (t : T) (l : List (Den t)) (x : Value) : Prop :=
  ∃ a cap cs, x = .slice a l.length cap ∧ l.length ≤ cap ∧ (a = none → l = [] ∧ cap = 0) ∧ FzR w A t l cs ∧ ∀ p : Addr, a = some p → (l ≠ [] → p.spot = none) ∧ ∀ j (hj : j < cs.length), w.cell? ⟨p.block, p.off + j, none⟩ = some cs[j]
theorem castL_eq {t t' : T} {l : List (Den t)} {l' : List (Den t')} (h : castL t t' l = some l') : ∃ e : t = t', l' = e ▸ l := by
  unfold castL at h
  split at h
  · rename_i hb
    exact ⟨T.eq_of_beq hb, by simpa using h.symm⟩
  · cases h
theorem IsRw.conts {w : World} {A : Nat → Nat → Prop} {t : T} {l : List (Den t)} {x : Value} (h : IsRw w A t.len (Fz w A t) l x) : ContsG w A t l x := by
  obtain ⟨a, cap, h1, h2, h3, h4⟩ := h
  cases a with
  | none =>
    obtain ⟨rfl, rfl⟩ := h3 rfl
    exact ⟨none, 0, [], h1, h2, h3, rfl, fun p hp => by cases hp⟩
  | some p =>
    obtain ⟨g1, g2⟩ := h4 p rfl
    obtain ⟨cs, r1, r2⟩ := FzR_of (w := w) (A := A) (fun j => w.cell? ⟨p.block, j, none⟩) l p.off (fun i hi => by
      obtain ⟨c, q1, _, q3⟩ := g2 i hi
      exact ⟨c, q1, fun j hj => (q3 j hj).1⟩)
    exact ⟨some p, cap, cs, h1, h2, (fun e => by cases e), r1, fun q hq => by cases hq; exact ⟨g1, r2⟩⟩
theorem contF_run {t : T} {av : AV} {l : List (Den t)} {c : Cx} {x : Value} (h0 : contF t av = some l) (hv : Val c av x) : IsRw c.w c.A t.len (Fz c.w c.A t) l x := by
  unfold contF at h0
  split at h0
  · simp only [Option.some.injEq] at h0; subst h0
    obtain rfl := hv
    exact ⟨none, 0, rfl, Nat.le_refl _, fun _ => ⟨rfl, rfl⟩, fun p hp => by cases hp⟩
  · obtain ⟨rfl, rfl⟩ := castL_eq h0
    exact IsSl.rw hv
  · obtain ⟨rfl, rfl⟩ := castL_eq h0
    exact rsl_rw hv
  · obtain ⟨rfl, rfl⟩ := castL_eq h0
    exact hv
  · cases h0
theorem own_arr {X : Fx} {h : List Blk} {L : List Loc} {w : World} (I : Inv X h L w) {id off : Nat} {path : List Nat} {len : Option Nat} {k : IntKind} {n : Nat} {v : AV} {l : List Int} {x : Value} (hb : h[id]? = some (.var v))
    (hg : getP v path = some (.ints k n l)) (hv : Val (cx X h L w) (.own id path off len) x) :
    ∃ p o, L[id]? = some p ∧ Sh.at (sh v) path = some (o, .ints n) ∧ l.length = n ∧ NN k l ∧ off + olen len n off ≤ n ∧
      (∃ q : Addr, x = .slice (some q) (olen len n off) (n - off) ∧ (q.block = p.b ∧ q.spot = none) ∧ (off < n → q = ⟨p.b, p.o + o + off, none⟩)) ∧
      ∀ i (hi : i < l.length), w.cell? ⟨p.b, p.o + o + i, none⟩ = some (.int k l[i]) ∧ w.frozen? ⟨p.b, p.o + o + i, none⟩ = false := by
  obtain ⟨p, hp⟩ := I.loc hb
  have hv' := (Val_leaf rfl (by simp) (by simp)).1 hv
  simp only [leaf, cx_S hb, Blk.sh] at hv'
  have hL : (cx X h L w).L[id]? = some p := hp
  rw [hL] at hv'
  obtain ⟨o, m, hat, h1, h2⟩ := hv'
  have hs := sh_getP _ _ _ _ _ hg hat
  simp only [sh, Sh.ints.injEq] at hs
  subst hs
  obtain ⟨cs, g1, g2⟩ := I.blk id _ p hb hp
  obtain ⟨pre, cx', post, rfl, hpre, q1, q2, _⟩ := Cells_at path v _ cs o _ g1 hg hat
  obtain ⟨q3, q4, rfl⟩ := q1
  refine ⟨p, o, hp, hat, q3, q4, h1, h2, fun i hi => ?_⟩
  have := g2 (o + i) (by simp [hpre]; omega)
  rw [show p.o + o + i = p.o + (o + i) by omega]
  simp only [cx] at this
  refine ⟨?_, this.2⟩
  rw [this.1]
  have e : (pre ++ l.map (Value.int k) ++ post)[o + i]? = some (.int k l[i]) := by
    rw [List.append_assoc, List.getElem?_append_right (by omega), List.getElem?_append_left (by simp; omega)]
    simp [hpre, hi]
  rw [← List.getElem?_eq_getElem, e]
theorem NN.sub {k : IntKind} {l m : List Int} (h : NN k l) (hs : ∀ x ∈ m, x ∈ l) : NN k m := fun hk x hx => h hk x (hs x hx)
theorem cont_run {look : Nat → Blk} {k : IntKind} {av : AV} {l : List Int} (h0 : cont look k av = some l) (X : Fx) (h : List Blk) (L : List Loc) (w : World) (x : Value) (I : Inv X h L w) (hl : lookOk look h)
    (hv : Val (cx X h L w) av x) : Conts w k l x := by
  unfold cont at h0
  split at h0
  · simp only [Option.some.injEq] at h0; subst h0
    obtain rfl := hv
    exact ⟨by simp [NN], none, 0, rfl, Nat.le_refl _, fun _ => rfl, fun p hp => by cases hp⟩
  · obtain ⟨hk, h1⟩ := cond_none h0
    simp only [Option.some.injEq] at h1; subst h1
    have hk := of_decide_eq_true hk
    subst hk
    obtain ⟨hn, a, cap, rfl, h2, h3, h4, h5⟩ := hv
    exact ⟨hn, a, cap, rfl, h2, fun e => (h4 e).1, fun p hp i hi => ⟨(h5 p hp).1 (ne_nil_of hi), ((h5 p hp).2 i hi).1⟩⟩
  · rename_i id path off len
    split at h0
    · rename_i k' nl m hb
      split at h0
      · obtain ⟨hk, h9⟩ := cond_none h0
        clear h0
        have h0 := h9
        clear h9
        have hk := of_decide_eq_true hk
        subst hk
        have hb := hl.get hb (by simp)
        obtain ⟨p, hp, h1, h2, h3⟩ := own_row I hb hv
        obtain ⟨g1, g2, g3⟩ := I.blk id _ p hb hp
        have hlen : l.length = olen len m.length off ∧ ∀ i (hi : i < l.length), ∃ hm : off + i < m.length, l[i] = m[off + i] := by
          cases len with
          | none => simp only [Option.some.injEq, cut] at h0; subst h0; exact ⟨by simp [olen], fun i hi => by simp at hi; exact ⟨by omega, by simp⟩⟩
          | some n => simp only [Option.some.injEq, cut] at h0; subst h0; simp only [olen] at h1; exact ⟨by simp [olen]; omega, fun i hi => by simp at hi; exact ⟨by omega, by simp⟩⟩
        have hmem : ∀ x ∈ l, x ∈ m := by
          intro y hy
          cases len with
          | none => simp only [Option.some.injEq, cut] at h0; subst h0; exact List.mem_of_mem_drop hy
          | some n => simp only [Option.some.injEq, cut] at h0; subst h0; exact List.mem_of_mem_drop (List.mem_of_mem_take hy)
        refine ⟨g1.sub hmem, ?_⟩
        cases nl with
        | true =>
          obtain ⟨⟨a0, rfl⟩, rfl⟩ := h2 rfl
          have : l = [] := by
            cases l with
            | nil => rfl
            | cons y l => exact absurd (hmem y (by simp)) (by simp)
          subst this
          exact ⟨a0, 0, rfl, Nat.le_refl _, fun _ => rfl, fun p _ i hi => by simp at hi⟩
        | false =>
          obtain ⟨q, rfl, hq, hq2⟩ := h3 rfl
          obtain ⟨r1, r2, r3⟩ := g3 rfl
          refine ⟨some q, _, by rw [hlen.1], by omega, fun e => (by cases e), fun p' hp' i hi => ?_⟩
          simp only [Option.some.injEq] at hp'
          subst hp'
          obtain ⟨hm, he⟩ := hlen.2 i hi
          have := hq2 (by omega)
          subst this
          refine ⟨rfl, ?_⟩
          have := r2 (off + i) hm
          simp only [cx] at this
          rw [show p.o + off + i = p.o + (off + i) by omega, this, he]
      · cases h0
    · rename_i v hb
      split at h0
      · rename_i k' n m hg
        obtain ⟨hk, h9⟩ := cond_none h0
        clear h0
        have h0 := h9
        clear h9
        have hk := of_decide_eq_true hk
        subst hk
        have hb := hl.get hb (by simp)
        obtain ⟨p, o, hp, hat, hml, hnn, h1, ⟨q, rfl, hq, hq2⟩, h3⟩ := own_arr I hb hg hv
        subst hml
        have hlen : l.length = olen len m.length off ∧ ∀ i (hi : i < l.length), ∃ hm : off + i < m.length, l[i] = m[off + i] := by
          cases len with
          | none => simp only [Option.some.injEq, cut] at h0; subst h0; exact ⟨by simp [olen], fun i hi => by simp at hi; exact ⟨by omega, by simp⟩⟩
          | some n => simp only [Option.some.injEq, cut] at h0; subst h0; simp only [olen] at h1; exact ⟨by simp [olen]; omega, fun i hi => by simp at hi; exact ⟨by omega, by simp⟩⟩
        have hmem : ∀ x ∈ l, x ∈ m := by
          intro y hy
          cases len with
          | none => simp only [Option.some.injEq, cut] at h0; subst h0; exact List.mem_of_mem_drop hy
          | some n => simp only [Option.some.injEq, cut] at h0; subst h0; exact List.mem_of_mem_drop (List.mem_of_mem_take hy)
        refine ⟨hnn.sub hmem, some q, _, by rw [hlen.1], by omega, fun e => (by cases e), fun p' hp' i hi => ?_⟩
        simp only [Option.some.injEq] at hp'
        subst hp'
        obtain ⟨hm, he⟩ := hlen.2 i hi
        have := hq2 (by omega)
        subst this
        refine ⟨rfl, ?_⟩
        have := (h3 (off + i) hm).1
        rw [show p.o + o + off + i = p.o + o + (off + i) by omega, this, he]
      · cases h0
    · cases h0
  · cases h0
end Go.Ev
namespace Go.Ev
set_option linter.unusedSimpArgs false
theorem foldl_push : ∀ (ns : List Int) (s : ByteArray), ns.foldl (fun r n => r.push (UInt8.ofNat n.toNat)) s = ⟨s.data ++ (toStr ns).toArray⟩
  | [], s => by simp [toStr]
  | n :: ns, s => by
    rw [List.foldl_cons, foldl_push ns]
    simp [toStr, ByteArray.push]
theorem run_loadCells_ints {w : World} {P : Program} {k : IntKind} {l : List Int} {p : Addr} (h : ∀ i (hi : i < l.length), p.spot = none ∧ w.cell? ⟨p.block, p.off + i, none⟩ = some (.int k l[i])) :
    (loadCells p l.length).run P w = .ok (l.map (Value.int k)).toArray w := by
  have := run_loadCells_list (P := P) w p (l.map (Value.int k)) fun j v hj => by
    have hlt : j < l.length := by
      rcases Nat.lt_or_ge j l.length with q | q
      · exact q
      · simp [List.getElem?_eq_none q] at hj
    rw [addr_add _ _ (h j hlt).1, (h j hlt).2]
    simpa [hlt] using hj
  simpa using this
theorem convE_run {R : Type} {G : Gi} {κ : Kop R} {r : R} {look : Nat → Blk} {src dst : TypeId} {av : AV} (h0 : convE G look κ src dst av = some r) :
    ∃ v, κ v [] = some r ∧ ∀ (X : Fx) h L w x, X.G = G → Inv X h L w → lookOk look h → Val (cx X h L w) av x → ∃ cv, (convert src dst x).run G.P w = .ok cv w ∧ Val (cx X h L w) v cv := by
  unfold convE at h0
  split at h0
  · rename_i d k n hs hd
    refine ⟨_, h0, fun X h L w x hG I hl hx => ?_⟩
    obtain ⟨rfl, _⟩ := hx
    refine ⟨_, ?_, rfl, wrap_nn _ _⟩
    simp [convert, run_underlying' hs, run_underlying' hd, Conv.intToInt]
  · rename_i d l hs hd
    refine ⟨_, h0, fun X h L w x hG I hl hx => ?_⟩
    obtain rfl := hx
    refine ⟨_, ?_, rfl⟩
    simp [convert, run_underlying' hs, run_underlying' hd]
  · rename_i e hs hd hx1
    split at h0
    · rename_i he
      split at h0
      · rename_i l hc
        refine ⟨_, h0, fun X h L w x hG I hl hx => ?_⟩
        obtain ⟨hnn, a, cap, rfl, h2, h3, h4⟩ := cont_run hc X h L w x I hl hx
        rw [run_convert_bytes_string w src dst e a _ _ hs he hd]
        cases a with
        | none =>
          have := h3 rfl
          subst this
          exact ⟨_, by simp [Conv.bytesToString]; rfl, by simp [toStr]; rfl⟩
        | some p =>
          rw [run_bytesToString w p l.length cap l (run_loadCells_ints (h4 p rfl))]
          refine ⟨_, rfl, ?_⟩
          rw [foldl_push]
          have : (ByteArray.empty).data = #[] := rfl
          rw [this, Array.empty_append]
          rfl
      · cases h0
    · cases h0
  · cases h0
theorem slLen_run {look : Nat → Blk} {av : AV} {n : Nat} (h0 : slLen look av = some n) (X : Fx) (h : List Blk) (L : List Loc) (w : World) (x : Value) (I : Inv X h L w) (hl : lookOk look h)
    (hv : Val (cx X h L w) av x) : ∃ a cap, x = .slice a n cap := by
  unfold slLen at h0
  split at h0
  · simp only [Option.some.injEq] at h0; subst h0; obtain rfl := hv; exact ⟨_, _, rfl⟩
  · simp only [Option.some.injEq] at h0; subst h0; obtain ⟨_, a, cap, rfl, _⟩ := hv; exact ⟨_, _, rfl⟩
  · simp only [Option.some.injEq] at h0; subst h0; obtain ⟨a, cap, rfl, _⟩ := hv; exact ⟨_, _, rfl⟩
  · simp only [Option.some.injEq] at h0; subst h0; obtain ⟨a, cap, rfl, _⟩ := hv; exact ⟨_, _, rfl⟩
  · rename_i id m
    split at h0
    · rename_i v hb
      simp only [Option.some.injEq] at h0; subst h0
      have hb := hl.get hb (by simp)
      have hv' : leaf (cx X h L w) (.asl id m) x := hv
      obtain ⟨p, hp⟩ := I.loc hb
      have hL : (cx X h L w).L[id]? = some p := hp
      simp only [leaf, cx_S hb, Blk.sh, hL] at hv'
      exact ⟨_, _, hv'.2⟩
    · cases h0
  · simp only [Option.some.injEq] at h0; subst h0; obtain ⟨a, cap, rfl, _⟩ := hv; exact ⟨_, _, rfl⟩
  · rename_i id path off len
    split at h0
    · rename_i k nl l hb
      simp only [Option.some.injEq] at h0; subst h0
      have hb := hl.get hb (by simp)
      have hv' := (Val_leaf rfl (by simp) (by simp)).1 hv
      have hpath : path = [] := by
        obtain ⟨p, hp⟩ := I.loc hb
        simp only [leaf, cx_S hb, Blk.sh] at hv'
        have hL : (cx X h L w).L[id]? = some p := hp
        rw [hL] at hv'
        exact hv'.1
      subst hpath
      obtain ⟨p, hp, h1, h2, h3⟩ := own_row I hb hv
      cases nl with
      | true =>
        obtain ⟨⟨a0, rfl⟩, rfl⟩ := h2 rfl
        have : olen len ([] : List Int).length off = 0 := by simp at h1 ⊢; omega
        rw [this]; exact ⟨_, _, rfl⟩
      | false => obtain ⟨q, rfl, _⟩ := h3 rfl; exact ⟨_, _, rfl⟩
    · rename_i t nl l hb
      simp only [Option.some.injEq] at h0; subst h0
      have hb := hl.get hb (by simp)
      obtain ⟨p, hp, _, h1, h2, h3⟩ := own_gro I hb hv
      cases nl with
      | true =>
        obtain ⟨⟨a0, rfl⟩, rfl⟩ := h2 rfl
        have : olen len ([] : List (Den t)).length off = 0 := by simp at h1 ⊢; omega
        rw [this]; exact ⟨_, _, rfl⟩
      | false => obtain ⟨q, rfl, _⟩ := h3 rfl; exact ⟨_, _, rfl⟩
    · rename_i v hb
      split at h0
      · rename_i k m l hg
        simp only [Option.some.injEq] at h0; subst h0
        have hb := hl.get hb (by simp)
        obtain ⟨p, o, _, _, _, _, _, ⟨q, rfl, _⟩, _⟩ := own_arr I hb hg hv
        exact ⟨_, _, rfl⟩
      · cases h0
    · cases h0
  · cases h0
theorem lenE_run {R : Type} {G : Gi} {κ : Kop R} {r : R} {look : Nat → Blk} {t : TypeId} {av : AV} (h0 : lenE G look κ t av = some r) :
    ∃ v, κ v [] = some r ∧ ∀ (X : Fx) h L w x ty, X.G = G → Inv X h L w → lookOk look h → Val (cx X h L w) av x → ∃ cv, (Builtin.len_ #[t] ty #[x]).run G.P w = .ok cv w ∧ Val (cx X h L w) v cv := by
  unfold lenE at h0
  split at h0
  · rename_i hu
    split at h0
    · rename_i l
      refine ⟨_, h0, fun X h L w x ty hG I hl hx => ?_⟩
      obtain rfl := hx
      refine ⟨.int .i64 l.length, ?_, rfl, by simp [NN, IntKind.signed]⟩
      simp only [Builtin.len_, List.getElem?_toArray, List.getElem?_cons_zero, Sem.run_bind, run_underlying' hu, Result.andThen_ok, goInt, Sem.run_pure, ByteArray.size, List.size_toArray]
    · cases h0
  · rename_i n e hu
    refine ⟨_, h0, fun X h L w x ty hG I hl hx => ?_⟩
    refine ⟨.int .i64 n, ?_, rfl, by simp [NN, IntKind.signed]⟩
    simp [Builtin.len_, run_underlying' hu, goInt]
  · rename_i e hu
    split at h0
    · rename_i n hn
      refine ⟨_, h0, fun X h L w x ty hG I hl hx => ?_⟩
      obtain ⟨a, cap, rfl⟩ := slLen_run hn X h L w x I hl hx
      refine ⟨.int .i64 n, ?_, rfl, by simp [NN, IntKind.signed]⟩
      simp [Builtin.len_, run_underlying' hu, goInt]
    · cases h0
  · cases h0
theorem run_indexAt_slice {P : Program} {w : World} {t e : TypeId} {k : IntKind} {i : Int} {p : Addr} {len cap : Nat} (hu : P.underlying t = some (.slice e)) (hs : szIs P e 1 = true) (h0 : 0 ≤ i) (h1 : i < len) :
    (Instr.indexAt t (.slice (some p) len cap) (.int k i)).run P w = .ok (.pointer (some (p.add i.toNat))) w := by
  have hc : 0 ≤ i ∧ i < (len : Int) := ⟨h0, h1⟩
  simp [Instr.indexAt, asIntOf, run_underlying' hu, h0, h1, run_sizeOf' hs, hc]
theorem run_indexAt_sliceG {P : Program} {w : World} {t e : TypeId} {n : Nat} {k : IntKind} {i : Int} {p : Addr} {len cap : Nat} (hu : P.underlying t = some (.slice e)) (hs : szIs P e n = true) (h0 : 0 ≤ i) (h1 : i < len) :
    (Instr.indexAt t (.slice (some p) len cap) (.int k i)).run P w = .ok (.pointer (some (p.add (i.toNat * n)))) w := by
  have hc : 0 ≤ i ∧ i < (len : Int) := ⟨h0, h1⟩
  simp [Instr.indexAt, asIntOf, run_underlying' hu, h0, h1, run_sizeOf' hs, hc]
theorem IsRw.part {α : Type} {w : World} {A : Nat → Nat → Prop} {n : Nat} {F : α → List Value → Prop} {l : List α} {ad : Option Addr} {m cap a b : Nat} (h : IsRw w A n F l (.slice ad m cap)) (hab : a ≤ b) (hb : b ≤ l.length) :
    IsRw w A n F ((l.take b).drop a) (.slice (if cap = a then ad else ad.map (·.add (a * n))) (b - a) (cap - a)) := by
  obtain ⟨ad', cap', e, q2, q4, q5⟩ := h
  simp only [Value.slice.injEq] at e
  obtain ⟨rfl, rfl, rfl⟩ := e
  refine ⟨(if cap = a then ad else ad.map (·.add (a * n))), cap - a, ?_, by simp; omega, ?_, ?_⟩
  · simp; omega
  · intro hn
    have : ad = none := by
      split at hn
      · exact hn
      · simpa using hn
    obtain ⟨rfl, rfl⟩ := q4 this
    simp
  · intro p hp
    cases ad with
    | none => simp at hp
    | some p0 =>
      obtain ⟨r1, r2⟩ := q5 p0 rfl
      split at hp
      · rename_i hca
        simp only [Option.some.injEq] at hp; subst hp
        refine ⟨fun hne => r1 (by rintro rfl; simp at hne), fun i hi => ?_⟩
        simp at hi; omega
      · simp only [Option.map_some, Option.some.injEq] at hp; subst hp
        by_cases hl0 : l = []
        · subst hl0
          refine ⟨fun hne => by simp at hne, fun i hi => ?_⟩
          simp at hi
        rw [addr_add _ _ (r1 hl0)]
        refine ⟨fun _ => rfl, fun i hi => ?_⟩
        have hi' : a + i < l.length := by simp at hi; omega
        obtain ⟨cs, s1, s2, s3⟩ := r2 (a + i) hi'
        refine ⟨cs, by simpa using s1, s2, fun j hj => ?_⟩
        have := s3 j hj
        rw [show p0.off + n * (a + i) + j = p0.off + a * n + n * i + j by rw [Nat.mul_add, Nat.mul_comm n a]; omega] at this
        exact this
theorem run_indexAt_array {P : Program} {w : World} {t e : TypeId} {k : IntKind} {i : Int} {p : Addr} {n : Nat} (hu : P.underlying t = some (.array n e)) (hs : szIs P e 1 = true) (h0 : 0 ≤ i) (h1 : i < n) :
    (Instr.indexAt t (.pointer (some p)) (.int k i)).run P w = .ok (.pointer (some (p.add i.toNat))) w := by
  have hc : 0 ≤ i ∧ i < (n : Int) := ⟨h0, h1⟩
  simp [Instr.indexAt, asIntOf, run_underlying' hu, Instr.sureAddr, h0, h1, run_sizeOf' hs, hc]
theorem indexAddrE_run {R : Type} {G : Gi} {κ : Kop R} {r : R} {look : Nat → Blk} {t : TypeId} {av iv : AV} (h0 : indexAddrE G look κ t av iv = some r) :
    ∃ v, κ v [] = some r ∧ ∀ (X : Fx) h L w x y, X.G = G → Inv X h L w → lookOk look h → Val (cx X h L w) av x → Val (cx X h L w) iv y →
      ∃ cv, (Instr.indexAt t x y).run G.P w = .ok cv w ∧ Val (cx X h L w) v cv := by
  unfold indexAddrE at h0
  split at h0
  · rename_i k i
    split at h0
    · rename_i n e hu
      split at h0
      · rename_i id path
        split at h0
        · rename_i v hb
          split at h0
          · rename_i k' m l hg
            obtain ⟨hc, h1⟩ := cond_none h0
            obtain ⟨hi, h2⟩ := cond_none h1
            obtain ⟨hj, h3⟩ := cond_none h2
            clear h0 h1 h2
            simp only [Bool.and_eq_true] at hc
            obtain ⟨c1, c2⟩ := hc
            have c2 := Nat.eq_of_beq_eq_true c2
            have hi := of_decide_eq_true hi
            have hj := of_decide_eq_true hj
            refine ⟨_, h3, fun X h L w x y hG I hl hx hy => ?_⟩
            obtain ⟨rfl, _⟩ := hy
            have hb := hl.get hb (by simp)
            obtain ⟨p, o, s, hp, rfl, hat⟩ := ptr_at I hb hx
            have hs := sh_getP _ _ _ _ _ hg hat
            simp only [sh] at hs
            subst hs
            refine ⟨_, run_indexAt_array hu c1 hi hj, ?_⟩
            have := at_append_ints path (sh v) o m i.toNat hat (by omega)
            rw [addr_add _ _ rfl]
            have q := ptr_mk (w := w) (X := X) hb hp this
            rw [show p.o + o + i.toNat = p.o + (o + i.toNat) by omega]
            exact q
          · rename_i l hg
            obtain ⟨hc, h1⟩ := cond_none h0
            obtain ⟨hi, h2⟩ := cond_none h1
            obtain ⟨hj, h3⟩ := cond_none h2
            clear h0 h1 h2
            simp only [Bool.and_eq_true] at hc
            obtain ⟨c1, c2, c3⟩ := hc
            have c2 := Nat.eq_of_beq_eq_true c2
            have c3 := Nat.eq_of_beq_eq_true c3
            have hi := of_decide_eq_true hi
            have hj := of_decide_eq_true hj
            refine ⟨_, h3, fun X h L w x y hG I hl hx hy => ?_⟩
            obtain ⟨rfl, _⟩ := hy
            have hb := hl.get hb (by simp)
            obtain ⟨p, o, s, hp, rfl, hat⟩ := ptr_at I hb hx
            have hs := sh_getP _ _ _ _ _ hg hat
            have hs' : s = .agg (shL l) := by rw [← hs]; rfl
            subst hs'
            have hlt : i.toNat < l.length := by omega
            refine ⟨_, run_indexAt_array hu c1 hi hj, ?_⟩
            have hat2 := at_append path (sh v) o (shL l) i.toNat (sh l[i.toNat]) hat (by rw [shL_eq]; simp [hlt])
            rw [addr_add _ _ rfl]
            have q := ptr_mk (w := w) (X := X) hb hp hat2
            rw [c3] at q
            rw [show p.o + o + i.toNat = p.o + (o + i.toNat) by omega]
            exact q
          · cases h0
        · cases h0
      · rename_i g
        split at h0
        · rename_i k' m l hg
          obtain ⟨hc, h1⟩ := cond_none h0
          obtain ⟨hi, h2⟩ := cond_none h1
          obtain ⟨hj, h3⟩ := cond_none h2
          clear h0 h1 h2
          simp only [Bool.and_eq_true] at hc
          obtain ⟨c1, c2⟩ := hc
          have c2 := Nat.eq_of_beq_eq_true c2
          have hi := of_decide_eq_true hi
          have hj := of_decide_eq_true hj
          refine ⟨_, h3, fun X h L w x y hG I hl hx hy => ?_⟩
          obtain ⟨rfl, _⟩ := hy
          obtain rfl := hx
          subst hG
          obtain ⟨cs, ⟨hlen, hnn, rfl⟩, hm⟩ := I.glb g _ hg
          have hlt : i.toNat < l.length := by omega
          refine ⟨_, run_indexAt_array hu c1 hi hj, ?_⟩
          rw [addr_add _ _ rfl]
          obtain ⟨m1, m2⟩ := hm i.toNat (by simpa using hlt)
          refine ⟨fun hk z hz => by rw [List.mem_singleton] at hz; subst hz; exact hnn hk _ (getD_mem hlt), _, rfl, rfl, ?_, by simpa using m2⟩
          show w.cell? ⟨g, 0 + i.toNat, none⟩ = _
          rw [Nat.zero_add, m1]
          simp [List.getD, List.getElem?_eq_getElem hlt]
        · cases h0
      · cases h0
    · rename_i e hu
      split at h0
      · rename_i k' nl l
        obtain ⟨c1, h1⟩ := cond_none h0
        obtain ⟨hi, h2⟩ := cond_none h1
        obtain ⟨hj, h3⟩ := cond_none h2
        clear h0 h1 h2
        have hi := of_decide_eq_true hi
        have hj := of_decide_eq_true hj
        refine ⟨_, h3, fun X h L w x y hG I hl hx hy => ?_⟩
        obtain ⟨rfl, _⟩ := hy
        obtain ⟨hnn, a, cap, rfl, g2, g3, g4, g5⟩ := hx
        cases a with
        | none => have := (g4 rfl).1; subst this; simp at hj; omega
        | some p =>
          refine ⟨_, run_indexAt_slice hu c1 hi hj, ?_⟩
          obtain ⟨q1, q2⟩ := g5 p rfl
          have hlt : i.toNat < l.length := by omega
          rw [addr_add _ _ (q1 (ne_nil_of hlt))]
          refine ⟨fun hk z hz => by rw [List.mem_singleton] at hz; subst hz; exact hnn hk _ (getD_mem hlt), _, rfl, rfl, ?_, (q2 _ hlt).2⟩
          rw [(q2 _ hlt).1]
          simp [List.getD, List.getElem?_eq_getElem hlt]
      · rename_i k' ll
        obtain ⟨c1, h1⟩ := cond_none h0
        obtain ⟨hi, h2⟩ := cond_none h1
        obtain ⟨hj, h3⟩ := cond_none h2
        clear h0 h1 h2
        have hi := of_decide_eq_true hi
        have hj := of_decide_eq_true hj
        refine ⟨_, h3, fun X h L w x y hG I hl hx hy => ?_⟩
        obtain ⟨rfl, _⟩ := hy
        obtain ⟨a, cap, rfl, g2, g4, g5⟩ := hx
        cases a with
        | none => have := (g4 rfl).1; subst this; simp at hj; omega
        | some p =>
          refine ⟨_, run_indexAt_slice hu c1 hi hj, ?_⟩
          obtain ⟨q1, q2⟩ := g5 p rfl
          have hlt : i.toNat < ll.length := by omega
          obtain ⟨z, r1, r2, r3⟩ := q2 _ hlt
          rw [addr_add _ _ (q1 (ne_nil_of hlt))]
          refine ⟨_, z, rfl, rfl, r1, r2, ?_⟩
          simpa [List.getD, List.getElem?_eq_getElem hlt] using r3
      · rename_i k' ll
        obtain ⟨c1, h1⟩ := cond_none h0
        obtain ⟨hi, h2⟩ := cond_none h1
        obtain ⟨hj, h3⟩ := cond_none h2
        clear h0 h1 h2
        have hi := of_decide_eq_true hi
        have hj := of_decide_eq_true hj
        refine ⟨_, h3, fun X h L w x y hG I hl hx hy => ?_⟩
        obtain ⟨rfl, _⟩ := hy
        obtain ⟨a, cap, rfl, g2, g4, g5⟩ := hx
        cases a with
        | none => have := (g4 rfl).1; subst this; simp at hj; omega
        | some p =>
          refine ⟨_, run_indexAt_slice hu c1 hi hj, ?_⟩
          obtain ⟨q1, q2⟩ := g5 p rfl
          have hlt : i.toNat < ll.length := by omega
          obtain ⟨r1, r2⟩ := q2 _ hlt
          rw [addr_add _ _ (q1 (ne_nil_of hlt))]
          refine ⟨_, rfl, rfl, ?_, r2⟩
          rw [r1]
          simp [List.getD, List.getElem?_eq_getElem hlt]
      · rename_i te ll
        obtain ⟨c1, h1⟩ := cond_none h0
        obtain ⟨hi, h2⟩ := cond_none h1
        obtain ⟨hj, h3⟩ := cond_none h2
        clear h0 h1 h2
        have hi := of_decide_eq_true hi
        have hj := of_decide_eq_true hj
        refine ⟨_, h3, fun X h L w x y hG I hl hx hy => ?_⟩
        obtain ⟨rfl, _⟩ := hy
        obtain ⟨a, cap, rfl, g2, g4, g5⟩ := hx
        cases a with
        | none => have := (g4 rfl).1; subst this; simp at hj; omega
        | some p =>
          refine ⟨_, run_indexAt_sliceG hu c1 hi hj, ?_⟩
          obtain ⟨q1, q2⟩ := g5 p rfl
          have hlt : i.toNat < ll.length := by omega
          obtain ⟨cs, r1, r2, r3⟩ := q2 _ hlt
          rw [addr_add _ _ (q1 (ne_nil_of hlt))]
          refine ⟨_, cs, rfl, rfl, ?_, fun j hj => ?_⟩
          · simpa [List.getD, List.getElem?_eq_getElem hlt] using r1
          · have := r3 j hj
            rw [Nat.mul_comm] at this
            exact this
      · rename_i id path off len
        split at h0
        · rename_i te nl l hb
          split at h0
          · obtain ⟨c1, h1⟩ := cond_none h0
            obtain ⟨hi, h2⟩ := cond_none h1
            obtain ⟨hj, h3⟩ := cond_none h2
            clear h0 h1 h2
            have hi := of_decide_eq_true hi
            have hj := of_decide_eq_true hj
            refine ⟨_, h3, fun X h L w x y hG I hl hx hy => ?_⟩
            obtain ⟨rfl, _⟩ := hy
            have hb := hl.get hb (by simp)
            obtain ⟨p, hp, _, g1, g2, g3⟩ := own_gro I hb hx
            cases nl with
            | true => obtain ⟨⟨a0, rfl⟩, rfl⟩ := g2 rfl; simp only [List.length_nil] at g1 hj; omega
            | false =>
              obtain ⟨q, rfl, hq, hq2⟩ := g3 rfl
              obtain ⟨_, _, r⟩ := I.blk id _ p hb hp
              obtain ⟨r1, r2, r3⟩ := r rfl
              refine ⟨_, run_indexAt_sliceG hu c1 hi hj, ?_⟩
              have := hq2 (by omega)
              subst this
              rw [addr_add _ _ rfl, Val_leaf rfl (by simp) (by simp)]
              simp only [leaf, cx_S hb, Blk.sh]
              have hL : (cx X h L w).L[id]? = some p := hp
              rw [hL]
              refine ⟨rfl, _, rfl, by omega, ?_⟩
              rw [Nat.mul_add, Nat.mul_comm te.len i.toNat, Nat.add_assoc]
          · cases h0
        · rename_i k' nl l hb
          split at h0
          · obtain ⟨c1, h1⟩ := cond_none h0
            obtain ⟨hi, h2⟩ := cond_none h1
            obtain ⟨hj, h3⟩ := cond_none h2
            clear h0 h1 h2
            have hi := of_decide_eq_true hi
            have hj := of_decide_eq_true hj
            refine ⟨_, h3, fun X h L w x y hG I hl hx hy => ?_⟩
            obtain ⟨rfl, _⟩ := hy
            have hb := hl.get hb (by simp)
            obtain ⟨p, hp, g1, g2, g3⟩ := own_row I hb hx
            cases nl with
            | true => obtain ⟨⟨a0, rfl⟩, rfl⟩ := g2 rfl; simp only [List.length_nil] at g1 hj; omega
            | false =>
              obtain ⟨q, rfl, hq, hq2⟩ := g3 rfl
              obtain ⟨_, _, r⟩ := I.blk id _ p hb hp
              obtain ⟨r1, r2, r3⟩ := r rfl
              refine ⟨_, run_indexAt_slice hu c1 hi hj, ?_⟩
              have := hq2 (by omega)
              subst this
              rw [addr_add _ _ rfl, Val_leaf rfl (by simp) (by simp)]
              simp only [leaf, cx_S hb, Blk.sh]
              have hL : (cx X h L w).L[id]? = some p := hp
              rw [hL]
              exact ⟨rfl, _, rfl, by omega, by simp [Nat.add_assoc]⟩
          · cases h0
        · rename_i v hb
          split at h0
          · rename_i k' m l hg
            obtain ⟨c1, h1⟩ := cond_none h0
            obtain ⟨hi, h2⟩ := cond_none h1
            obtain ⟨hj, h3⟩ := cond_none h2
            clear h0 h1 h2
            have hi := of_decide_eq_true hi
            have hj := of_decide_eq_true hj
            refine ⟨_, h3, fun X h L w x y hG I hl hx hy => ?_⟩
            obtain ⟨rfl, _⟩ := hy
            have hb := hl.get hb (by simp)
            obtain ⟨p, o, hp, hat, hml, hnn, g1, ⟨q, rfl, hq, hq2⟩, g3⟩ := own_arr I hb hg hx
            refine ⟨_, run_indexAt_slice hu c1 hi hj, ?_⟩
            have := hq2 (by omega)
            subst this
            rw [addr_add _ _ rfl]
            have hat2 := at_append_ints path (sh v) o m (off + i.toNat) hat (by omega)
            have q := ptr_mk (w := w) (X := X) hb hp hat2
            simp only
            rw [show p.o + o + off + i.toNat = p.o + (o + (off + i.toNat)) by omega]
            exact q
          · cases h0
        · cases h0
      · cases h0
    · cases h0
  · cases h0
theorem bndE_ok {R : Type} {m len : Nat} {lo hi : Option AV} {κ : Nat → Nat → Option R} {r : R} (h0 : bndE m len lo hi κ = some r) :
    ∃ a b, κ a b = some r ∧ a ≤ b ∧ (len ≤ m → b ≤ m) ∧ ∀ (P : Program) (w : World) (c : Cx) (isS : Bool) (cap : Nat) (lv hv : Option Value), m ≤ cap →
      (∀ x, lo = some x → ∃ y, lv = some y ∧ Val c x y) → (lo = none → lv = none) → (∀ x, hi = some x → ∃ y, hv = some y ∧ Val c x y) → (hi = none → hv = none) →
      (Instr.sliceBounds isS len cap lv hv none).run P w = .ok (a, b, cap) w := by
  have low : ∀ h, (match lo with
      | none => κ 0 h
      | some (.int _ l) => cond (decide (0 ≤ l)) (cond (decide (l ≤ h)) (κ l.toNat h) none) none
      | some _ => none) = some r → ∃ a, κ a h = some r ∧ a ≤ h ∧ ∀ (P : Program) (w : World) (c : Cx) (code : BoundsCode) (lv : Option Value), (∀ x, lo = some x → ∃ y, lv = some y ∧ Val c x y) → (lo = none → lv = none) →
        (match lv with | some v => Instr.sliceBound v h code | none => pure 0).run P w = .ok a w := by
    intro h hk
    split at hk
    · exact ⟨0, hk, Nat.zero_le _, fun P w c code lv _ h2 => by rw [h2 rfl]; rfl⟩
    · rename_i k l
      obtain ⟨h1, h2⟩ := cond_none hk
      obtain ⟨h3, h4⟩ := cond_none h2
      have h1 := of_decide_eq_true h1
      have h3 := of_decide_eq_true h3
      refine ⟨_, h4, by omega, fun P w c code lv g1 _ => ?_⟩
      obtain ⟨y, rfl, rfl, _⟩ := g1 _ rfl
      simp [Instr.sliceBound, asIntOf, h1, h3]
    · cases hk
  unfold bndE at h0
  simp only at h0
  split at h0
  · obtain ⟨a, h1, h2, h3⟩ := low _ h0
    refine ⟨a, len, h1, h2, id, fun P w c isS cap lv hv hm g1 g2 g3 g4 => ?_⟩
    rw [g4 rfl]
    have := h3 P w c .sliceB lv g1 g2
    cases lv with
    | none => simp only [Instr.sliceBounds, Sem.run_bind, Sem.run_pure, Result.andThen_ok] at this ⊢; simp only [Result.ok.injEq] at this; rw [this.1]
    | some v => simp only [Instr.sliceBounds, Sem.run_bind, Sem.run_pure, Result.andThen_ok] at this ⊢; simp [this]
  · rename_i k h
    obtain ⟨q1, q2⟩ := cond_none h0
    obtain ⟨q3, q4⟩ := cond_none q2
    have q1 := of_decide_eq_true q1
    have q3 := of_decide_eq_true q3
    obtain ⟨a, h1, h2, h3⟩ := low _ q4
    refine ⟨a, h.toNat, h1, h2, fun _ => by omega, fun P w c isS cap lv hv hm g1 g2 g3 g4 => ?_⟩
    obtain ⟨y, rfl, rfl, _⟩ := g3 _ rfl
    have := h3 P w c .sliceB lv g1 g2
    have hle : 0 ≤ h ∧ h ≤ (cap : Int) := ⟨q1, by omega⟩
    have hb : ∀ code, (Instr.sliceBound (.int k h) cap code).run P w = .ok h.toNat w := fun code => by simp [Instr.sliceBound, asIntOf, hle]
    cases lv with
    | none => simp only [Instr.sliceBounds, Sem.run_bind, Sem.run_pure, Result.andThen_ok, hb] at this ⊢; simp only [Result.ok.injEq] at this; rw [this.1]
    | some v => simp only [Instr.sliceBounds, Sem.run_bind, Sem.run_pure, Result.andThen_ok, hb] at this ⊢; simp [this]
  · cases h0
theorem sl_of_rp {c : Cx} {k : IntKind} {n : Nat} (l : List Int) {x : Value} (hx : IsRp c (.arr k n) l x) {a b : Nat} (hab : a ≤ b) (hbn : b ≤ n) :
    ∃ p : Addr, x = .pointer (some p) ∧ IsSl c.w c.A k none ((l.take b).drop a) (.slice (some (if n = a then p else p.add (a * 1))) (b - a) (n - a)) := by
  obtain ⟨p, cs, rfl, hs, ⟨q1, q2, e⟩, q3⟩ := hx
  have e : cs = l.map (Value.int k) := e
  subst e
  have q1 : l.length = n := q1
  have q2 : NN k l := q2
  have hlen : ((l.take b).drop a).length = b - a := by rw [List.length_drop, List.length_take]; omega
  refine ⟨p, rfl, q2.sub fun y hy => List.mem_of_mem_take (List.mem_of_mem_drop hy), some (if n = a then p else p.add (a * 1)), n - a, by rw [hlen], by rw [hlen]; omega, (fun b hb => by cases hb), (fun e => by cases e), fun p' hp => ?_⟩
  simp only [Option.some.injEq] at hp
  subst hp
  refine ⟨fun _ => ?_, fun i hi => ?_⟩
  · split
    · exact hs
    · rw [addr_add _ _ hs]
  · rw [hlen] at hi
    rw [if_neg (by omega), addr_add _ _ hs]
    have hil : a + i < l.length := by omega
    have r := q3 (a + i) (by simpa using hil)
    simp only [Nat.mul_one]
    rw [show p.off + a + i = p.off + (a + i) by omega]
    refine ⟨?_, r.2⟩
    rw [r.1]
    simp
theorem sliceE_run {R : Type} {G : Gi} {κ : Kop R} {r : R} {look : Nat → Blk} {t : TypeId} {av : AV} {lo hi : Option AV} (h0 : sliceE G look κ t av lo hi = some r) :
    ∃ v, κ v [] = some r ∧ ∀ (X : Fx) h L w x lv hv, X.G = G → Inv X h L w → lookOk look h → Val (cx X h L w) av x →
      ((∀ x, lo = some x → ∃ y, lv = some y ∧ Val (cx X h L w) x y) ∧ (lo = none → lv = none)) → ((∀ x, hi = some x → ∃ y, hv = some y ∧ Val (cx X h L w) x y) ∧ (hi = none → hv = none)) →
      ∃ cv, (Instr.sliceAt t x lv hv none).run G.P w = .ok cv w ∧ Val (cx X h L w) v cv := by
  have arr : ∀ (id : Nat) (path : List Nat) (n : Nat) (e : TypeId) (κ : Kop R) , (match look id with
    | .var v => match getP v path with
      | some (.ints _ m _) => cond (Nat.beq n m) (bndE n n lo hi fun a b => κ (.own id path a (some (b - a))) []) none
      | _ => none
    | _ => none) = some r → szIs G.P e 1 = true → ∃ v, κ v [] = some r ∧ ∀ (X : Fx) h L w x lv hv, X.G = G → Inv X h L w → lookOk look h → Val (cx X h L w) (.ptr id path) x →
      ((∀ x, lo = some x → ∃ y, lv = some y ∧ Val (cx X h L w) x y) ∧ (lo = none → lv = none)) → ((∀ x, hi = some x → ∃ y, hv = some y ∧ Val (cx X h L w) x y) ∧ (hi = none → hv = none)) →
      ∃ a b p, (Instr.sliceBounds false n n lv hv none).run G.P w = .ok (a, b, n) w ∧ x = .pointer (some p) ∧
        Val (cx X h L w) v (.slice (some (if n = a then p else p.add (a * 1))) (b - a) (n - a)) := by
    intro id path n e κ hk he
    split at hk
    · rename_i v hb
      split at hk
      · rename_i k m l hg
        obtain ⟨c1, h1⟩ := cond_none hk
        have c1 := Nat.eq_of_beq_eq_true c1
        subst c1
        obtain ⟨a, b, g1, g2, g3, g4⟩ := bndE_ok h1
        refine ⟨_, g1, fun X h L w x lv hv hG I hl hx hlo hhi => ?_⟩
        have hb := hl.get hb (by simp)
        obtain ⟨p, o, s, hp, rfl, hat⟩ := ptr_at I hb hx
        have hs := sh_getP _ _ _ _ _ hg hat
        simp only [sh] at hs
        subst hs
        refine ⟨a, b, _, g4 G.P w (cx X h L w) false n lv hv (Nat.le_refl _) hlo.1 hlo.2 hhi.1 hhi.2, rfl, ?_⟩
        rw [Val_leaf rfl (by simp) (by simp)]
        simp only [leaf, cx_S hb, Blk.sh]
        have hL : (cx X h L w).L[id]? = some p := hp
        rw [hL]
        have g3 := g3 (Nat.le_refl _)
        refine ⟨o, n, hat, by simp [olen]; omega, (if n = a then (⟨p.b, p.o + o, none⟩ : Addr) else Addr.add ⟨p.b, p.o + o, none⟩ (a * 1)), by simp [olen], ?_, fun hlt => ?_⟩
        · split
          · exact ⟨rfl, rfl⟩
          · rw [addr_add _ _ rfl]; exact ⟨rfl, rfl⟩
        · rw [if_neg (by omega), addr_add _ _ rfl]; simp
      · cases hk
    · cases hk
  unfold sliceE at h0
  split at h0
  · rename_i l hu
    obtain ⟨a, b, g1, g2, g3, g4⟩ := bndE_ok h0
    refine ⟨_, g1, fun X h L w x lv hv hG I hl hx hlo hhi => ?_⟩
    obtain rfl := hx
    have hb := g4 G.P w (cx X h L w) false l.length lv hv (Nat.le_refl _) hlo.1 hlo.2 hhi.1 hhi.2
    have hsz : (ByteArray.mk l.toArray).size = l.length := rfl
    refine ⟨.string ⟨((l.take b).drop a).toArray⟩, ?_, rfl⟩
    simp only [Instr.sliceAt, Sem.run_bind, run_underlying' hu, Result.andThen_ok, Instr.slice, Option.isSome_none, Bool.false_eq_true, if_false, hsz, hb, Sem.run_pure]
    congr 2
    apply ByteArray.ext
    simp [List.drop_take]
  · rename_i e k nl l hu
    obtain ⟨c1, h1⟩ := cond_none h0
    obtain ⟨a, b, g1, g2, g3, g4⟩ := bndE_ok h1
    refine ⟨_, g1, fun X h L w x lv hv hG I hl hx hlo hhi => ?_⟩
    obtain ⟨hnn, ad, cap, rfl, q2, q3, q4, q5⟩ := hx
    have hb := g4 G.P w (cx X h L w) true cap lv hv q2 hlo.1 hlo.2 hhi.1 hhi.2
    refine ⟨_, by
      simp only [Instr.sliceAt, Sem.run_bind, run_underlying' hu, Result.andThen_ok, Instr.slice, hb, run_sizeOf' c1, Sem.run_pure]; rfl, ?_⟩
    refine ⟨hnn.sub fun y hy => List.mem_of_mem_take (List.mem_of_mem_drop hy), (if cap = a then ad else ad.map (·.add (a * 1))), cap - a, by simp; omega, by simp; omega, ?_, ?_, ?_⟩
    · intro bb hbb
      have := q3 bb hbb
      split
      · exact this
      · cases ad <;> simpa using this
    · intro hn
      have : ad = none := by
        split at hn
        · exact hn
        · simpa using hn
      obtain ⟨rfl, rfl⟩ := q4 this
      simp
    · intro p hp
      cases ad with
      | none => simp at hp
      | some p0 =>
        obtain ⟨r1, r2⟩ := q5 p0 rfl
        split at hp
        · rename_i hca
          simp only [Option.some.injEq] at hp; subst hp
          refine ⟨fun hne => r1 (by rintro rfl; simp at hne), fun i hi => ?_⟩
          simp at hi; omega
        · simp only [Option.map_some, Option.some.injEq] at hp; subst hp
          by_cases hl0 : l = []
          · subst hl0
            refine ⟨fun hne => by simp at hne, fun i hi => ?_⟩
            simp at hi
          rw [addr_add _ _ (r1 hl0)]
          refine ⟨fun _ => rfl, fun i hi => ?_⟩
          have hi' : a + i < l.length := by simp at hi; omega
          have := r2 (a + i) hi'
          simp only [Nat.mul_one]
          rw [show p0.off + a + i = p0.off + (a + i) by omega]
          refine ⟨?_, this.2⟩
          rw [this.1]
          simp
  · rename_i e hu
    obtain ⟨c1, h1⟩ := cond_none h0
    obtain ⟨a, b, g1, g2, g3, g4⟩ := bndE_ok h1
    refine ⟨_, g1, fun X h L w x lv hv hG I hl hx hlo hhi => ?_⟩
    obtain rfl : x = .slice none 0 0 := hx
    have hb := g4 G.P w (cx X h L w) true 0 lv hv (Nat.le_refl _) hlo.1 hlo.2 hhi.1 hhi.2
    have g3 := g3 (Nat.le_refl _)
    obtain rfl : b = 0 := by omega
    obtain rfl : a = 0 := by omega
    refine ⟨.slice none 0 0, ?_, rfl⟩
    simp only [Instr.sliceAt, Sem.run_bind, run_underlying' hu, Result.andThen_ok, Instr.slice, hb, run_sizeOf' c1, Sem.run_pure]
    rfl
  · rename_i e k l hu
    obtain ⟨c1, h1⟩ := cond_none h0
    obtain ⟨a, b, g1, g2, g3, g4⟩ := bndE_ok h1
    refine ⟨_, g1, fun X h L w x lv hv hG I hl hx hlo hhi => ?_⟩
    have hx' : leaf (cx X h L w) (.rsl k l) x := hx
    have hr := rsl_rw hx'
    obtain ⟨ad, cap, rfl, q2, q4, q5⟩ := hr
    have hb : (Instr.sliceBounds true (@List.length (Den (.sl k)) l) cap lv hv none).run G.P w = .ok (a, b, cap) w := g4 G.P w (cx X h L w) true cap lv hv q2 hlo.1 hlo.2 hhi.1 hhi.2
    refine ⟨_, by
      simp only [Instr.sliceAt, Sem.run_bind, run_underlying' hu, Result.andThen_ok, Instr.slice, hb, run_sizeOf' c1, Sem.run_pure]; rfl, ?_⟩
    exact mkRow_leaf (t := .sl k) (IsRw.part (n := (T.sl k).len) ⟨ad, cap, rfl, q2, q4, q5⟩ g2 (g3 (Nat.le_refl _)))
  · rename_i e te l hu
    obtain ⟨c1, h1⟩ := cond_none h0
    obtain ⟨a, b, g1, g2, g3, g4⟩ := bndE_ok h1
    refine ⟨_, g1, fun X h L w x lv hv hG I hl hx hlo hhi => ?_⟩
    have hr : IsRw w (cx X h L w).A te.len (Fz w (cx X h L w).A te) l x := hx
    obtain ⟨ad, cap, rfl, q2, q4, q5⟩ := hr
    have hb := g4 G.P w (cx X h L w) true cap lv hv q2 hlo.1 hlo.2 hhi.1 hhi.2
    refine ⟨_, by
      simp only [Instr.sliceAt, Sem.run_bind, run_underlying' hu, Result.andThen_ok, Instr.slice, hb, run_sizeOf' c1, Sem.run_pure]; rfl, ?_⟩
    exact IsRw.part (n := te.len) ⟨ad, cap, rfl, q2, q4, q5⟩ g2 (g3 (Nat.le_refl _))
  · rename_i e id path off len hu
    obtain ⟨c1, h1⟩ := cond_none h0
    split at h1
    · rename_i k nl l hb
      split at h1
      · obtain ⟨a, b, g1, g2, g3, g4⟩ := bndE_ok h1
        refine ⟨_, g1, fun X h L w x lv hv hG I hl hx hlo hhi => ?_⟩
        have hb := hl.get hb (by simp)
        obtain ⟨p, hp, q1, q2, q3⟩ := own_row I hb hx
        have g3 := g3 (by omega)
        obtain ⟨_, _, rr⟩ := I.blk id _ p hb hp
        cases nl with
        | true =>
          obtain ⟨⟨a0, rfl⟩, rfl⟩ := q2 rfl
          simp only [List.length_nil] at q1 g3 g4
          have h0' : olen len 0 off = 0 := by omega
          have hbd := g4 G.P w (cx X h L w) true 0 lv hv (by omega) hlo.1 hlo.2 hhi.1 hhi.2
          rw [h0'] at hbd
          have hb0 : b = 0 := by omega
          have ha0 : a = 0 := by omega
          subst hb0; subst ha0
          refine ⟨_, by
            simp only [Instr.sliceAt, Sem.run_bind, run_underlying' hu, Result.andThen_ok, Instr.slice, hbd, run_sizeOf' c1, Sem.run_pure]; rfl, ?_⟩
          rw [Val_leaf rfl (by simp) (by simp)]
          simp only [leaf, cx_S hb, Blk.sh]
          have hL : (cx X h L w).L[id]? = some p := hp
          rw [hL]
          exact ⟨by trivial, by simp [olen]; omega, by simp⟩
        | false =>
          obtain ⟨q, rfl, hq, hq2⟩ := q3 rfl
          obtain ⟨r1, r2, r3⟩ := rr rfl
          have hbd := g4 G.P w (cx X h L w) true (p.cap - off) lv hv (by omega) hlo.1 hlo.2 hhi.1 hhi.2
          refine ⟨_, by
            simp only [Instr.sliceAt, Sem.run_bind, run_underlying' hu, Result.andThen_ok, Instr.slice, hbd, run_sizeOf' c1, Sem.run_pure]; rfl, ?_⟩
          rw [Val_leaf rfl (by simp) (by simp)]
          simp only [leaf, cx_S hb, Blk.sh]
          have hL : (cx X h L w).L[id]? = some p := hp
          rw [hL]
          refine ⟨by trivial, by simp [olen]; omega, ?_⟩
          simp only [Bool.false_eq_true, if_false, Option.map_some]
          have hqs : off < p.cap → q.spot = none := fun hlt => by rw [hq2 hlt]
          by_cases hca : p.cap - off = a
          · rw [if_pos hca]
            exact ⟨q, by simp [olen]; omega, hq, fun hlt => by omega⟩
          · rw [if_neg hca]
            have hlt : off < p.cap := by omega
            have := hq2 hlt
            subst this
            rw [addr_add _ _ rfl]
            exact ⟨⟨p.b, p.o + off + a * 1, none⟩, by simp [olen]; omega, ⟨rfl, rfl⟩, fun _ => by simp [Nat.add_assoc]⟩
      · cases h1
    · rename_i v hb
      split at h1
      · rename_i k m l hg
        obtain ⟨a, b, g1, g2, g3, g4⟩ := bndE_ok h1
        refine ⟨_, g1, fun X h L w x lv hv hG I hl hx hlo hhi => ?_⟩
        have hb := hl.get hb (by simp)
        obtain ⟨p, o, hp, hat, hml, hnn, q1, ⟨q, rfl, hq, hq2⟩, q3⟩ := own_arr I hb hg hx
        have g3 := g3 (by omega)
        have hbd := g4 G.P w (cx X h L w) true (m - off) lv hv (by omega) hlo.1 hlo.2 hhi.1 hhi.2
        refine ⟨_, by
          simp only [Instr.sliceAt, Sem.run_bind, run_underlying' hu, Result.andThen_ok, Instr.slice, hbd, run_sizeOf' c1, Sem.run_pure]; rfl, ?_⟩
        rw [Val_leaf rfl (by simp) (by simp)]
        simp only [leaf, cx_S hb, Blk.sh]
        have hL : (cx X h L w).L[id]? = some p := hp
        rw [hL]
        refine ⟨o, m, hat, by simp [olen]; omega, ?_⟩
        simp only [Option.map_some]
        by_cases hca : m - off = a
        · rw [if_pos hca]
          exact ⟨q, by simp [olen]; omega, hq, fun hlt => by omega⟩
        · rw [if_neg hca]
          have hlt : off < m := by omega
          have := hq2 hlt
          subst this
          rw [addr_add _ _ rfl]
          exact ⟨⟨p.b, p.o + o + off + a * 1, none⟩, by simp [olen]; omega, ⟨rfl, rfl⟩, fun _ => by simp [Nat.add_assoc]⟩
      · cases h1
    · cases h1
  · rename_i n e id path hu
    obtain ⟨c1, h1⟩ := cond_none h0
    obtain ⟨v, g1, g2⟩ := arr id path n e κ h1 c1
    refine ⟨v, g1, fun X h L w x lv hv hG I hl hx hlo hhi => ?_⟩
    obtain ⟨a, b, p, q1, rfl, q2⟩ := g2 X h L w x lv hv hG I hl hx hlo hhi
    refine ⟨_, ?_, q2⟩
    simp only [Instr.sliceAt, Sem.run_bind, run_underlying' hu, Result.andThen_ok, Instr.sureAddr, Sem.run_pure, q1, run_sizeOf' c1]
  · rename_i u id path hu
    split at h0
    · rename_i n e hu2
      obtain ⟨c1, h1⟩ := cond_none h0
      obtain ⟨v, g1, g2⟩ := arr id path n e κ h1 c1
      refine ⟨v, g1, fun X h L w x lv hv hG I hl hx hlo hhi => ?_⟩
      obtain ⟨a, b, p, q1, rfl, q2⟩ := g2 X h L w x lv hv hG I hl hx hlo hhi
      refine ⟨_, ?_, q2⟩
      simp only [Instr.sliceAt, Sem.run_bind, run_underlying' hu, Result.andThen_ok, Instr.slice, asAddr, run_underlying' hu2, Sem.run_pure, q1, run_sizeOf' c1]
    · cases h0
  · rename_i n e k m l hu
    obtain ⟨c1, h1⟩ := cond_none h0
    simp only [Bool.and_eq_true] at c1
    obtain ⟨c1, c2⟩ := c1
    have c2 := Nat.eq_of_beq_eq_true c2
    subst c2
    obtain ⟨a, b, g1, g2, g3, g4⟩ := bndE_ok h1
    refine ⟨_, g1, fun X h L w x lv hv hG I hl hx hlo hhi => ?_⟩
    obtain ⟨p, rfl, q⟩ := sl_of_rp (c := cx X h L w) l hx g2 (g3 (Nat.le_refl _))
    have hb := g4 G.P w (cx X h L w) false n lv hv (Nat.le_refl _) hlo.1 hlo.2 hhi.1 hhi.2
    refine ⟨.slice (some (if n = a then p else p.add (a * 1))) (b - a) (n - a), ?_, q⟩
    simp only [Instr.sliceAt, Sem.run_bind, run_underlying' hu, Result.andThen_ok, Instr.sureAddr, Sem.run_pure, hb, run_sizeOf' c1]
  · cases h0
end Go.Ev
