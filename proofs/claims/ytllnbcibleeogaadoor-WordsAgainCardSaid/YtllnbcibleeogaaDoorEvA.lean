/- The evaluator's words: abstract values, blocks, places; what they say of a world. No program in sight. -/
import Derived.Orders
import Derived.Still
import Derived.Below
import Derived.ScopeJumps
import Derived.KernelRfl
import Derived.IntWalk
namespace Go.Ev

/-- Abstract values. -/
inductive AV where
  | dead
  | int (k : IntKind) (n : Int)
  | bool (b : Bool)
  | str (l : List UInt8)
  | ints (k : IntKind) (n : Nat) (l : List Int)
  | agg (l : List AV)
  | tup (l : List AV)
  | nils
  | isl (k : IntKind) (nl : Option Bool) (l : List Int)
  | rsl (k : IntKind) (ll : List (List Int))
  | own (id : Nat) (path : List Nat) (off : Nat) (len : Option Nat)
  | ptr (id : Nat) (path : List Nat)
  | rpi (k : IntKind) (n : Int)
  | rps (k : IntKind) (l : List Int)
  | nilp
  | err (n : Nat)
  | glo (g : Nat)
  | fn (f : Nat)
  deriving Inhabited

/-- Blocks: 'rsv' is kept for an operation that comes; nobody names it. -/
inductive Blk where
  | rsv
  | dead
  | var (v : AV)
  | row (k : IntKind) (nl : Bool) (l : List Int)
  deriving Inhabited

/-- Shapes. -/
inductive Sh where
  | leaf
  | ints (n : Nat)
  | agg (l : List Sh)
  deriving Inhabited

inductive BSh where
  | rsv
  | dead
  | var (s : Sh)
  | row (k : IntKind) (nl : Bool) (len : Nat)
  deriving Inhabited

mutual
def sh : AV → Sh
  | .ints _ n _ => .ints n
  | .agg l => .agg (shL l)
  | .dead | .int .. | .bool _ | .str _ | .tup _ | .nils | .isl .. | .rsl .. | .own .. | .ptr .. | .rpi .. | .rps .. | .nilp | .err _ | .glo _ | .fn _ => .leaf
def shL : List AV → List Sh
  | [] => []
  | v :: l => sh v :: shL l
end

mutual
def Sh.beq : Sh → Sh → Bool
  | .leaf, .leaf => true
  | .ints n, .ints m => Nat.beq n m
  | .agg l, .agg m => Sh.beqL l m
  | _, _ => false
def Sh.beqL : List Sh → List Sh → Bool
  | [], [] => true
  | a :: l, b :: m => Sh.beq a b && Sh.beqL l m
  | _, _ => false
end

mutual
def Sh.len : Sh → Nat
  | .leaf => 1
  | .ints n => n
  | .agg l => Sh.lenL l
def Sh.lenL : List Sh → Nat
  | [] => 0
  | a :: l => Sh.len a + Sh.lenL l
end

def Blk.sh : Blk → BSh
  | .rsv => .rsv
  | .dead => .dead
  | .var v => .var (Ev.sh v)
  | .row k nl l => .row k nl l.length

/-- Where a path leads in a shape: how many cells lie ahead, and the shape there. -/
def Sh.at : Sh → List Nat → Option (Nat × Sh)
  | s, [] => some (0, s)
  | .ints n, [i] => if i < n then some (i, .leaf) else none
  | .agg l, i :: p => match l[i]? with
    | some s => match Sh.at s p with
      | some (o, t) => some (Sh.lenL (l.take i) + o, t)
      | none => none
    | none => none
  | _, _ => none

def getP : AV → List Nat → Option AV
  | v, [] => some v
  | .ints k _ l, [i] => some (.int k (l.getD i 0))
  | .agg l, i :: p => match l[i]? with
    | some v => getP v p
    | none => none
  | _, _ => none

def setP : AV → List Nat → AV → Option AV
  | _, [], x => some x
  | .ints k n l, [i], .int _ z => some (.ints k n (l.set i z))
  | .agg l, i :: p, x => match l[i]? with
    | some v => match setP v p x with
      | some v' => some (.agg (l.set i v'))
      | none => none
    | none => none
  | _, _, _ => none

/-- Where a block lies: its number, the first cell, and how many cells are its own (a row has room behind its elements). -/
structure Loc where
  b : Nat
  o : Nat
  cap : Nat
  deriving Inhabited

/-- Which cells a block owns. -/
def BSh.owns : BSh → Loc → Nat → Nat → Prop
  | .var s, p, b, o => b = p.b ∧ p.o ≤ o ∧ o < p.o + s.len
  | .row _ nl _, p, b, o => nl = false ∧ b = p.b ∧ p.o ≤ o ∧ o < p.o + p.cap
  | _, _, _, _ => False

/-- What is fixed during one call. -/
structure Cx where
  eps : Nat → Value
  w : World
  A : Nat → Nat → Prop
  S : List BSh
  L : List Loc

def own (S : List BSh) (L : List Loc) (b o : Nat) : Prop := ∃ (id : Nat) (s : BSh) (p : Loc), S[id]? = some s ∧ L[id]? = some p ∧ s.owns p b o

/-- Numbers of an unsigned kind are none below 0. -/
def NN (k : IntKind) (l : List Int) : Prop := k.signed = false → ∀ x ∈ l, 0 ≤ x

/-- Cells that hold whole numbers, and that nobody writes. -/
def Lies (w : World) (A : Nat → Nat → Prop) (k : IntKind) (l : List Int) (a : Addr) : Prop :=
  a.spot = none ∧ ∀ i (h : i < l.length), w.cell? ⟨a.block, a.off + i, none⟩ = some (.int k l[i]) ∧ ¬ A a.block (a.off + i)

def IsSl (w : World) (A : Nat → Nat → Prop) (k : IntKind) (nl : Option Bool) (l : List Int) (v : Value) : Prop :=
  NN k l ∧ ∃ a cap, v = .slice a l.length cap ∧ l.length ≤ cap ∧ (∀ b, nl = some b → a.isNone = b) ∧ (a = none → l = [] ∧ cap = 0) ∧ ∀ p, a = some p → Lies w A k l p

/-- How long a slice is: so long, or to the end. -/
def olen (len : Option Nat) (m off : Nat) : Nat := match len with
  | some n => n
  | none => m - off

/-- A value of one cell. -/
def leaf (c : Cx) : AV → Value → Prop
  | .dead, v => v.cells = #[v] ∧ (match v with | .agg _ => false | .tuple _ => false | _ => true) = true
  | .int k n, v => v = .int k n ∧ NN k [n]
  | .bool b, v => v = .bool b
  | .str l, v => v = .string ⟨l.toArray⟩
  | .nils, v => v = .slice none 0 0
  | .isl k nl l, v => IsSl c.w c.A k nl l v
  | .rsl k ll, v => ∃ a cap, v = .slice a ll.length cap ∧ ll.length ≤ cap ∧ (a = none → ll = [] ∧ cap = 0) ∧ ∀ p, a = some p → p.spot = none ∧
      ∀ i (h : i < ll.length), ∃ x, c.w.cell? ⟨p.block, p.off + i, none⟩ = some x ∧ ¬ c.A p.block (p.off + i) ∧ IsSl c.w c.A k none ll[i] x
  | .own id path off len, v => match c.S[id]?, c.L[id]? with
    | some (.var s), some p => ∃ o n, Sh.at s path = some (o, .ints n) ∧ off + olen len n off ≤ n ∧
        ∃ q : Addr, v = .slice (some q) (olen len n off) (n - off) ∧ (q.block = p.b ∧ q.spot = none) ∧ (off < n → q = ⟨p.b, p.o + o + off, none⟩)
    | some (.row _ nl m), some p => path = [] ∧ off + olen len m off ≤ m ∧ if nl then v = .slice none 0 0 ∧ m = 0
        else ∃ q : Addr, v = .slice (some q) (olen len m off) (p.cap - off) ∧ (q.block = p.b ∧ q.spot = none) ∧ (off < p.cap → q = ⟨p.b, p.o + off, none⟩)
    | some .dead, _ => ∃ a n m, v = .slice a n m
    | _, _ => False
  | .ptr id path, v => match c.S[id]?, c.L[id]? with
    | some (.var s), some p => ∃ o t, Sh.at s path = some (o, t) ∧ v = .pointer (some ⟨p.b, p.o + o, none⟩)
    | some (.row _ nl m), some p => nl = false ∧ ∃ i, path = [i] ∧ i < m ∧ v = .pointer (some ⟨p.b, p.o + i, none⟩)
    | some .dead, _ => ∃ a, v = .pointer (some a)
    | _, _ => False
  | .rpi k n, v => NN k [n] ∧ ∃ p : Addr, v = .pointer (some p) ∧ p.spot = none ∧ c.w.cell? ⟨p.block, p.off, none⟩ = some (.int k n) ∧ ¬ c.A p.block p.off
  | .rps k l, v => ∃ (p : Addr) (x : Value), v = .pointer (some p) ∧ p.spot = none ∧ c.w.cell? ⟨p.block, p.off, none⟩ = some x ∧ ¬ c.A p.block p.off ∧ IsSl c.w c.A k none l x
  | .nilp, v => v = .pointer none
  | .err n, v => v = c.eps n
  | .glo g, v => v = .pointer (some ⟨g, 0, none⟩)
  | .fn f, v => v = .func (.func f) #[] #[]
  | .ints .., _ => False
  | .agg _, _ => False
  | .tup _, _ => False

mutual
/-- The cells of a value. -/
def Cells (c : Cx) : AV → List Value → Prop
  | .ints k n l, cs => l.length = n ∧ NN k l ∧ cs = l.map (Value.int k)
  | .agg l, cs => CellsL c l cs
  | v, cs => ∃ x, cs = [x] ∧ leaf c v x
def CellsL (c : Cx) : List AV → List Value → Prop
  | [], cs => cs = []
  | v :: l, cs => ∃ c1 c2, cs = c1 ++ c2 ∧ Cells c v c1 ∧ CellsL c l c2
end

mutual
/-- A value in a temporary. -/
def Val (c : Cx) : AV → Value → Prop
  | .dead, _ => True
  | .ints k n l, v => l.length = n ∧ NN k l ∧ v = .agg (l.map (Value.int k)).toArray
  | .agg l, v => ∃ cs, CellsL c l cs ∧ v = .agg cs.toArray
  | .tup l, v => ∃ vs, ValL c l vs ∧ v = .tuple vs.toArray
  | x, v => leaf c x v
def ValL (c : Cx) : List AV → List Value → Prop
  | [], vs => vs = []
  | x :: l, vs => ∃ y r, vs = y :: r ∧ Val c x y ∧ ValL c l r
end

/-- 'c'' is 'c' further on: what was read, and nobody writes, is as it was; a block is as it was, or is dead. -/
structure Cx.Le (c c' : Cx) : Prop where
  eps : c'.eps = c.eps
  cell : ∀ b o v, c.w.cell? ⟨b, o, none⟩ = some v → ¬ c.A b o → c'.w.cell? ⟨b, o, none⟩ = some v ∧ ¬ c'.A b o
  sh : ∀ (id : Nat) s, c.S[id]? = some s → s ≠ .rsv → (c'.S[id]? = some s ∧ c'.L[id]? = c.L[id]?) ∨ c'.S[id]? = some .dead

theorem Lies.le {c c' : Cx} (h : c.Le c') {k : IntKind} {l : List Int} {a : Addr} (g : Lies c.w c.A k l a) : Lies c'.w c'.A k l a :=
  ⟨g.1, fun i hi => h.cell _ _ _ (g.2 i hi).1 (g.2 i hi).2⟩

theorem IsSl.le {c c' : Cx} (h : c.Le c') {k : IntKind} {nl : Option Bool} {l : List Int} {v : Value} (g : IsSl c.w c.A k nl l v) : IsSl c'.w c'.A k nl l v := by
  obtain ⟨h0, a, cap, h1, h2, h3, h4, h5⟩ := g
  exact ⟨h0, a, cap, h1, h2, h3, h4, fun p hp => (h5 p hp).le h⟩

theorem leaf_own {c : Cx} {id off : Nat} {path : List Nat} {len : Option Nat} {v : Value} (h : leaf c (.own id path off len) v) : ∃ a n m, v = .slice a n m := by
  simp only [leaf] at h
  split at h
  · obtain ⟨o, n, _, _, q, rfl, _⟩ := h; exact ⟨_, _, _, rfl⟩
  · obtain ⟨_, _, h⟩ := h
    split at h
    · obtain ⟨rfl, _⟩ := h; exact ⟨_, _, _, rfl⟩
    · obtain ⟨q, rfl, _⟩ := h; exact ⟨_, _, _, rfl⟩
  · exact h
  · exact h.elim

theorem leaf_ptr {c : Cx} {id : Nat} {path : List Nat} {v : Value} (h : leaf c (.ptr id path) v) : ∃ a, v = .pointer (some a) := by
  simp only [leaf] at h
  split at h
  · obtain ⟨o, n, _, rfl⟩ := h; exact ⟨_, rfl⟩
  · obtain ⟨_, _, _, _, rfl⟩ := h; exact ⟨_, rfl⟩
  · exact h
  · exact h.elim

theorem leaf.le {c c' : Cx} (h : c.Le c') : ∀ {x : AV} {v : Value}, leaf c x v → leaf c' x v := by
  intro x v g
  cases x with
  | isl k nl l => exact IsSl.le h g
  | rsl k ll =>
    obtain ⟨a, cap, h1, h2, h4, h5⟩ := g
    refine ⟨a, cap, h1, h2, h4, fun p hp => ⟨(h5 p hp).1, fun i hi => ?_⟩⟩
    obtain ⟨y, q1, q2, q3⟩ := (h5 p hp).2 i hi
    obtain ⟨r1, r2⟩ := h.cell _ _ _ q1 q2
    exact ⟨y, r1, r2, q3.le h⟩
  | own id path off len =>
    have g0 := leaf_own g
    simp only [leaf] at g ⊢
    cases hs : c.S[id]? with
    | none => simp [hs] at g
    | some s =>
      by_cases hr : s = .rsv
      · subst hr; simp [hs] at g
      · rcases h.sh id s hs hr with ⟨q1, q2⟩ | q
        · rw [q1, q2]; rw [hs] at g; exact g
        · rw [q]; exact g0
  | ptr id path =>
    have g0 := leaf_ptr g
    simp only [leaf] at g ⊢
    cases hs : c.S[id]? with
    | none => simp [hs] at g
    | some s =>
      by_cases hr : s = .rsv
      · subst hr; simp [hs] at g
      · rcases h.sh id s hs hr with ⟨q1, q2⟩ | q
        · rw [q1, q2]; rw [hs] at g; exact g
        · rw [q]; exact g0
  | err n => simp only [leaf] at g ⊢; rw [h.eps]; exact g
  | rpi k n =>
    obtain ⟨h0, p, e, s, q1, q2⟩ := g
    obtain ⟨r1, r2⟩ := h.cell _ _ _ q1 q2
    exact ⟨h0, p, e, s, r1, r2⟩
  | rps k l =>
    obtain ⟨p, x, e, s, q1, q2, q3⟩ := g
    obtain ⟨r1, r2⟩ := h.cell _ _ _ q1 q2
    exact ⟨p, x, e, s, r1, r2, q3.le h⟩
  | _ => exact g

mutual
theorem Cells.le {c c' : Cx} (h : c.Le c') : ∀ (x : AV) (cs : List Value), Cells c x cs → Cells c' x cs
  | .ints _ _ _, _, g => g
  | .agg l, cs, g => CellsL.le h l cs g
  | .dead, _, ⟨y, e, g⟩ | .int .., _, ⟨y, e, g⟩ | .bool _, _, ⟨y, e, g⟩ | .str _, _, ⟨y, e, g⟩ | .tup _, _, ⟨y, e, g⟩ | .nils, _, ⟨y, e, g⟩ | .isl .., _, ⟨y, e, g⟩
  | .rsl .., _, ⟨y, e, g⟩ | .own .., _, ⟨y, e, g⟩ | .ptr .., _, ⟨y, e, g⟩ | .rpi .., _, ⟨y, e, g⟩ | .rps .., _, ⟨y, e, g⟩ | .nilp, _, ⟨y, e, g⟩ | .err _, _, ⟨y, e, g⟩ | .glo _, _, ⟨y, e, g⟩ | .fn _, _, ⟨y, e, g⟩ => ⟨y, e, g.le h⟩
theorem CellsL.le {c c' : Cx} (h : c.Le c') : ∀ (l : List AV) (cs : List Value), CellsL c l cs → CellsL c' l cs
  | [], _, g => g
  | v :: l, _, ⟨c1, c2, e, g1, g2⟩ => ⟨c1, c2, e, Cells.le h v c1 g1, CellsL.le h l c2 g2⟩
end

mutual
theorem Val.le {c c' : Cx} (h : c.Le c') : ∀ (x : AV) (v : Value), Val c x v → Val c' x v
  | .ints _ _ _, _, g => g
  | .agg l, _, ⟨cs, g, e⟩ => ⟨cs, CellsL.le h l cs g, e⟩
  | .tup l, _, ⟨vs, g, e⟩ => ⟨vs, ValL.le h l vs g, e⟩
  | .dead, _, _ => trivial
  | .int a b, _, g => leaf.le (x := .int a b) h g
  | .bool a, _, g => leaf.le (x := .bool a) h g
  | .str a, _, g => leaf.le (x := .str a) h g
  | .nils, _, g => leaf.le (x := .nils) h g
  | .isl a b d, _, g => leaf.le (x := .isl a b d) h g
  | .rsl a b, _, g => leaf.le (x := .rsl a b) h g
  | .own a b d e, _, g => leaf.le (x := .own a b d e) h g
  | .ptr a b, _, g => leaf.le (x := .ptr a b) h g
  | .nilp, _, g => leaf.le (x := .nilp) h g
  | .rpi a b, _, g => leaf.le (x := .rpi a b) h g
  | .rps a b, _, g => leaf.le (x := .rps a b) h g
  | .err a, _, g => leaf.le (x := .err a) h g
  | .glo a, _, g => leaf.le (x := .glo a) h g
  | .fn a, _, g => leaf.le (x := .fn a) h g
theorem ValL.le {c c' : Cx} (h : c.Le c') : ∀ (l : List AV) (vs : List Value), ValL c l vs → ValL c' l vs
  | [], _, g => g
  | x :: l, _, ⟨y, r, e, g1, g2⟩ => ⟨y, r, e, Val.le h x y g1, ValL.le h l r g2⟩
end

end Go.Ev
