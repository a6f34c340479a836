/- The evaluator: calls, regions, code. -/
import Derived.Test.YtllnbcibleeogaaDoorEvB
namespace Go.Ev

def pathBeq : List Nat → List Nat → Bool
  | [], [] => true
  | a :: l, b :: m => Nat.beq a b && pathBeq l m
  | _, _ => false

def memN (n : Nat) : List Nat → Bool
  | [] => false
  | m :: l => Nat.beq n m || memN n l

def nodupN : List Nat → Bool
  | [] => true
  | n :: l => !memN n l && nodupN l

def disjN : List Nat → List Nat → Bool
  | [], _ => true
  | n :: l, m => !memN n m && disjN l m

/-! ### references, renamed -/

abbrev Ren := Nat → List Nat → Option (Nat × List Nat)

mutual
/-- References renamed; a slice whose block isn't known to the new place is taken as it reads now. -/
def trA (look : Nat → Blk) (snap : Bool) (ρ : Ren) : AV → Option AV
  | .agg l => match trL look snap ρ l with
    | some l' => some (.agg l')
    | none => none
  | .tup l => match trL look snap ρ l with
    | some l' => some (.tup l')
    | none => none
  | .own id path off len => match ρ id path with
    | some (j, q) => some (.own j q off len)
    | none => cond snap (match look id with
      | .row k _ _ => match cont look k (.own id path off len) with
        | some l => some (.isl k none l)
        | none => none
      | .var v => match getP v path with
        | some (.ints k _ _) => match cont look k (.own id path off len) with
          | some l => some (.isl k none l)
          | none => none
        | _ => none
      | _ => none) none
  | .ptr id path => match ρ id path with
    | some (j, q) => some (.ptr j q)
    | none => none
  | .dead => some .dead
  | .int k n => some (.int k n)
  | .bool b => some (.bool b)
  | .str l => some (.str l)
  | .ints k n l => some (.ints k n l)
  | .nils => some .nils
  | .isl k nl l => some (.isl k nl l)
  | .rsl k l => some (.rsl k l)
  | .rpi k n => some (.rpi k n)
  | .rps k l => some (.rps k l)
  | .nilp => some .nilp
  | .err n => some (.err n)
  | .glo n => some (.glo n)
  | .fn n => some (.fn n)
def trL (look : Nat → Blk) (snap : Bool) (ρ : Ren) : List AV → Option (List AV)
  | [] => some []
  | v :: l => match trA look snap ρ v, trL look snap ρ l with
    | some v', some l' => some (v' :: l')
    | _, _ => none
end

def trB (look : Nat → Blk) (snap : Bool) (ρ : Ren) : Blk → Option Blk
  | .var v => match trA look snap ρ v with
    | some v' => some (.var v')
    | none => none
  | b => some b

mutual
def refs : AV → List Nat
  | .agg l => refsL l
  | .tup l => refsL l
  | .own id _ _ _ => [id]
  | .ptr id _ => [id]
  | .dead | .int .. | .bool _ | .str _ | .ints .. | .nils | .isl .. | .rsl .. | .rpi .. | .rps .. | .nilp | .err _ | .glo _ | .fn _ => []
def refsL : List AV → List Nat
  | [] => []
  | v :: l => refs v ++ refsL l
end

mutual
/-- No slice that stays as it is, and no place in one. -/
def slf : AV → Bool
  | .agg l => slfL l
  | .tup l => slfL l
  | .isl .. => false
  | .rsl .. => false
  | .rpi .. => false
  | .rps .. => false
  | .dead => false
  | .int .. | .bool _ | .str _ | .ints .. | .nils | .own .. | .ptr .. | .nilp | .err _ | .glo _ | .fn _ => true
def slfL : List AV → Bool
  | [] => true
  | v :: l => slf v && slfL l
end

def slfB : Blk → Bool
  | .var v => slf v
  | _ => true

def refsB : Blk → List Nat
  | .var v => refs v
  | _ => []

/-- What a call hands on: the places behind pointers, and the rows that lie in them. -/
def ptrs : List AV → List (Nat × List Nat)
  | [] => []
  | .ptr id path :: l => (id, path) :: ptrs l
  | _ :: l => ptrs l

mutual
def rowIds : AV → List (Nat × List Nat)
  | .agg l => rowIdsL l
  | .own id [] _ _ => [(id, [])]
  | _ => []
def rowIdsL : List AV → List (Nat × List Nat)
  | [] => []
  | v :: l => rowIds v ++ rowIdsL l
end

def entRows (look : Nat → Blk) : List (Nat × List Nat) → List (Nat × List Nat)
  | [] => []
  | (id, path) :: l => (match look id with
    | .var v => match getP v path with
      | some x => rowIds x
      | none => []
    | _ => []) ++ entRows look l

def findE (id : Nat) (path : List Nat) : List (Nat × List Nat) → Nat → Option (Nat × List Nat)
  | [], _ => none
  | (i, p) :: l, j => cond (Nat.beq id i && pathBeq path p) (some (j, [])) (findE id path l (j + 1))

def entBlks (look lookS : Nat → Blk) (ρ : Ren) : List (Nat × List Nat) → Option (List Blk)
  | [] => some []
  | (id, path) :: l => match entBlks look lookS ρ l with
    | none => none
    | some bs => match look id with
      | .var v => match getP v path with
        | some x => match trA lookS true ρ x with
          | some x' => some (.var x' :: bs)
          | none => none
        | none => none
      | .row k nl r => match path with
        | [] => some (.row k nl r :: bs)
        | _ => none
      | _ => none

/-- The way back: what lay at place j lies where it was; what is new lies from nid on. -/
def backE (E : List (Nat × List Nat)) (nid : Nat) : Ren := fun j p => match E[j]? with
  | some (id, path) => some (id, path ++ p)
  | none => some (nid + (j - E.length), p)

def noLook : Nat → Blk := fun _ => .rsv

def backBlks (look : Nat → Blk) (ρ : Ren) : List (Nat × List Nat) → List Blk → Option (List (Nat × Blk))
  | [], _ => some []
  | (id, path) :: l, b :: bs => match backBlks look ρ l bs with
    | none => none
    | some us => match look id, b with
      | .var v, .var x => match trA noLook false ρ x with
        | some x' => match setP v path x' with
          | some v' => cond (x.boxable && kindOk v path x') (some ((id, .var v') :: us)) none
          | none => none
        | none => none
      | _, _ => none
  | _ :: _, [] => none

def newBlks (ρ : Ren) (nid : Nat) : List Blk → Option (List (Nat × Blk))
  | [] => some []
  | b :: bs => match trB noLook false ρ b, newBlks ρ (nid + 1) bs with
    | some b', some us => some ((nid, b') :: us)
    | _, _ => none

/-- nil as an argument: a slice of the parameter's kind. -/
def coerce (P : Program) (t : TypeId) : AV → AV
  | .nils => match P.underlying t with
    | some (.slice e) => match P.underlying e with
      | some (.int k) => .isl k (some true) []
      | some (.slice e') => match P.underlying e' with
        | some (.int k) => .rsl k []
        | _ => .nils
      | _ => .nils
    | _ => .nils
  | v => v

def coerceL (P : Program) : List TypeId → List AV → List AV
  | t :: ts, v :: l => coerce P t v :: coerceL P ts l
  | _, l => l

def maxNew : Nat := 4

section
variable {R : Type} (G : Gi)

/-- Slices that a call is handed as they read now. -/
def snapIds (look : Nat → Blk) (E0 : List (Nat × List Nat)) (eids : List Nat) (args : List AV) : List Nat :=
  (refsL args ++ (E0.flatMap fun e => refsB (look e.1))).filter fun id => !memN id eids

def kills (ids : List Nat) : List (Nat × Blk) := ids.map fun id => (id, Blk.dead)

def callE (look : Nat → Blk) (nid : Nat) (κ : Kop R) (f : Nat) (args : List AV) : Option R :=
  match G.con f with
  | none => none
  | some C =>
    let E0 := ptrs args
    let Er := entRows look E0
    let E := E0 ++ Er
    let eids := E.map (·.1)
    let ρ : Ren := fun id path => findE id path E 0
    let sids := snapIds look E0 eids args
    let lookS : Nat → Blk := fun id => cond (memN id sids) (look id) .rsv
    cond (nodupN eids) (match trL lookS true ρ args, entBlks look lookS ρ E with
    | some as, some bs => C R (coerceL G.P (match G.P.funcs[f]? with | some fn => fn.params.toList | none => []) as) bs fun v bs' =>
        let back := backE E0 nid
        match trA noLook false back v, backBlks look back E0 (bs'.take E0.length), newBlks back nid (bs'.drop E0.length) with
        | some v', some us, some ns => cond (Nat.ble ns.length maxNew && Nat.ble E0.length bs'.length)
            (cond (slf v && bs'.all slfB) (κ v' (us ++ (kills (Er.map (·.1)) ++ ns)))
              (κ v' (kills sids ++ (us ++ (kills (Er.map (·.1)) ++ ns))))) none
        | _, _, _ => none
    | _, _ => none) none

def argT (c : Call) (i : Nat) : TypeId := c.argTypes.getD i 0

def stepE (o : Oper) (t : List AV) (look : Nat → Blk) (nid : Nat) (κ : Kop R) : Option R :=
  match o.op with
  | .move x => κ (evO t x) []
  | .assign x => κ (evO t x) []
  | .pick c a b => match evO t c with
    | .bool x => match evO t a, evO t b with
      | .bool p, .bool q => κ (.bool (cond x p q)) []
      | va, vb => cond x (κ va []) (κ vb [])
    | _ => none
  | .alloc e => allocE G nid κ e
  | .box _ x => boxE nid κ (evO t x)
  | .build ty parts => buildE G κ ty (parts.toList.map fun p => (p.1, evO t p.2))
  | .buildSlice ty n parts => buildSliceE G nid κ ty n (parts.toList.map fun p => (p.1, evO t p.2))
  | .load ty a => loadE G look κ ty (evO t a)
  | .store ty a x => storeE G look κ ty (evO t a) (evO t x)
  | .nilCheck x => nilE κ (evO t x)
  | .binOp op ty x y _ => match evO t x, evO t y with
    | .err n, .err m => errE G κ op ty (.err n) (.err m) x y
    | a, b => binE G κ op ty a b
  | .unOp op _ x => unE κ op (evO t x)
  | .convert src dst x => match G.P.underlying dst with
    | some (.slice _) => bytesE G nid κ src dst (evO t x)
    | _ => convE G look κ src dst (evO t x)
  | .fieldAddr ty x f => fieldAddrE G look κ ty (evO t x) f
  | .field ty x f => fieldE G κ ty (evO t x) f
  | .indexAddr ty x i => indexAddrE G look κ ty (evO t x) (evO t i)
  | .index ty x i => indexE G κ ty (evO t x) (evO t i)
  | .slice ty x lo hi none => sliceE G look κ ty (evO t x) (lo.map (evO t)) (hi.map (evO t))
  | .makeSlice ty l c => makeSliceE G nid κ ty (evO t l) (evO t c)
  | .extract x i => extractE κ (evO t x) i
  | .call c => match c.callee with
    | .value (.func f) => callE G look nid κ f (c.args.toList.map (evO t))
    | .builtin .len => match c.args.toList with
      | [x] => cond (Nat.beq c.argTypes.size 1) (lenE G look κ (argT c 0) (evO t x)) none
      | _ => none
    | .builtin .append => match c.args.toList with
      | [d, s] => cond (Nat.beq c.argTypes.size 2) (appendE G look nid κ (argT c 0) (argT c 1) (evO t d) (evO t s)) none
      | _ => none
    | .builtin .copy => match c.args.toList with
      | [d, s] => cond (Nat.beq c.argTypes.size 2) (copyE G look κ (argT c 0) (evO t d) (evO t s)) none
      | _ => none
    | _ => none
  | _ => none

/-- How many new blocks an operation may want. -/
def resv (o : Oper) : Nat := match o.op with
  | .alloc _ | .box .. | .buildSlice .. | .makeSlice .. | .convert .. => 1
  | .call c => match c.callee with
    | .builtin .append => 1
    | .value (.func _) => maxNew
    | _ => 0
  | _ => 0

def resvL : List Oper → Nat
  | [] => 0
  | o :: l => resv o + resvL l

def hAt (h : List Blk) (id : Nat) : Blk := h.getD id .rsv

def applyU : List Blk → List (Nat × Blk) → List Blk
  | h, [] => h
  | h, (id, b) :: us => applyU (h.set id b) us

def putT (t : List AV) (d : Option Nat) (v : AV) : List AV := match d with
  | some d => t.set d v
  | none => t

/-- What an operation may look at: the blocks that its operands name, and those that these name. -/
def seesO (t : List AV) (h : List Blk) (o : Oper) : List Nat :=
  let r := refsL (o.op.operands.toList.map (evO t))
  r ++ r.flatMap fun id => refsB (hAt h id)

structure FP where
  i : Nat
  rd : List Nat
  wr : List Nat

def fpOk (bits : Nat) (rd wr : List Nat) : List FP → Bool
  | [] => true
  | f :: fs => (bits.testBit f.i || (disjN f.wr (rd ++ wr) && disjN f.rd wr)) && fpOk bits rd wr fs

/-- An operation changes its own new blocks, and others that are there. -/
def usOk (h : List Blk) (nid top : Nat) : List (Nat × Blk) → Bool
  | [] => true
  | u :: us => ((Nat.ble nid u.1 && Nat.blt u.1 top) || (Nat.blt u.1 nid && match hAt h u.1 with | .rsv => false | _ => true)) && usOk h nid top us

def restr (h : List Blk) (ids : List Nat) : Nat → Blk := fun id => cond (memN id ids) (hAt h id) .rsv

def evOps (ops : Array Oper) (draw : Bool) (bef : Array Nat) : List Oper → Nat → Nat → List FP → (St → Option R) → St → Option R
  | [], _, _, _, K, st => K st
  | o :: rest, i, nid, fps, K, st =>
    let rd := cond draw (seesO st.t st.h o) []
    let go : St → Option R := fun st => stepE G o st.t (cond draw (restr st.h rd) (hAt st.h)) nid fun v us =>
      cond (usOk st.h nid (nid + resv o) us && cond draw (fpOk (bef.getD i 0) rd (us.map (·.1)) fps) true)
        (evOps ops draw bef rest (i + 1) (nid + resv o) (⟨i, rd, us.map (·.1)⟩ :: fps) K ⟨putT st.t o.dst v, applyU st.h us⟩) none
    let skip : St → Option R := fun st => evOps ops draw bef rest (i + 1) (nid + resv o) (⟨i, [], []⟩ :: fps) K ⟨putT st.t o.dst und, st.h⟩
    match o.guard with
    | none => go st
    | some (j, want) => match (ops[j]?).bind (·.dst) with
      | some d => match st.t.getD d und with
        | .bool b => cond b (cond want (go ⟨st.t.set d (.bool true), st.h⟩) (skip ⟨st.t.set d (.bool true), st.h⟩))
            (cond want (skip ⟨st.t.set d (.bool false), st.h⟩) (go ⟨st.t.set d (.bool false), st.h⟩))
        | .tup [] => skip st
        | _ => none
      | none => none

/-! ### a loop's head: the blocks and temporaries that live -/

structure Mv where
  t : Nat
  c : Nat
  k : IntKind

structure Ann where
  live : List Nat
  mv : List Mv
  size : Nat

def findMv (c : Nat) : List Mv → Option Mv
  | [] => none
  | m :: l => cond (Nat.beq m.c c) (some m) (findMv c l)

def findMvT (t : Nat) : List Mv → Option Mv
  | [] => none
  | m :: l => cond (Nat.beq m.t t) (some m) (findMvT t l)

/-- Where the block of place c comes from: an elder place, or a new row of no elements. -/
def srcOf (t : List AV) (mv : List Mv) (c : Nat) : Option (Nat ⊕ IntKind) := match findMv c mv with
  | none => some (.inl c)
  | some m => match t.getD m.t und with
    | .own id [] _ _ => some (.inl id)
    | .nils => some (.inr m.k)
    | _ => none

def srcs (t : List AV) (mv : List Mv) : Nat → Nat → Option (List (Nat ⊕ IntKind))
  | 0, _ => some []
  | n + 1, c => match srcOf t mv c, srcs t mv n (c + 1) with
    | some s, some l => some (s :: l)
    | _, _ => none

def srcIds : List (Nat ⊕ IntKind) → List Nat
  | [] => []
  | .inl i :: l => i :: srcIds l
  | .inr _ :: l => srcIds l

def findS (id : Nat) : List (Nat ⊕ IntKind) → Nat → Option Nat
  | [], _ => none
  | .inl i :: l, c => cond (Nat.beq id i) (some c) (findS id l (c + 1))
  | .inr _ :: l, c => findS id l (c + 1)

def srcBlks (h : List Blk) (ρ : Ren) : List (Nat ⊕ IntKind) → List Blk
  | [] => []
  | .inl i :: l => (match trB noLook false ρ (hAt h i) with | some b => b | none => .dead) :: srcBlks h ρ l
  | .inr k :: l => .row k true [] :: srcBlks h ρ l

def normT (live : List Nat) (mv : List Mv) (ρ : Ren) : List AV → Nat → List AV
  | [], _ => []
  | v :: l, i => (cond (memN i live) (match findMvT i mv, v with
      | some m, .nils => .own m.c [] 0 none
      | _, v => match trA noLook false ρ v with | some v' => v' | none => .dead) .dead) :: normT live mv ρ l (i + 1)

def norm (np : Nat) (a : Ann) (st : St) : Option St := match srcs st.t a.mv a.size 0 with
  | none => none
  | some ss => cond (nodupN (srcIds ss) && Nat.ble np a.size && a.mv.all fun m => Nat.ble np m.c && Nat.blt m.c a.size && match findMv m.c a.mv with | some m' => Nat.beq m'.t m.t | none => false) (
      let ρ : Ren := fun id p => match findS id ss 0 with | some c => some (c, p) | none => none
      some ⟨normT a.live a.mv ρ st.t 0, srcBlks st.h ρ ss⟩) none

/-! ### code -/

def evR (ops : Array Oper) (draw : Bool) (K : St → Option R) (st : St) : Option R :=
  cond (draw && !Region.lexB .any ops) none
    (evOps G ops draw (cond draw (Region.before ops) #[]) ops.toList 0 st.h.length [] K ⟨st.t, st.h ++ List.replicate (resvL ops.toList) .rsv⟩)

def firstR : Code → Nat
  | .region id _ _ => id
  | .seq a _ => firstR a
  | .block _ b => firstR b
  | .loop b => firstR b
  | .cond _ a _ => firstR a
  | .scope b => firstR b
  | _ => 1000000

structure Anns where
  loop : Nat → Option Ann
  label : Nat → Option Ann

def loopN (body : K R → St → Option R) (k : K R) (nm : St → Option St) : Nat → St → Option R
  | 0, _ => none
  | n + 1, st => body { k with nrm := fun st => match nm st with | some st => loopN body k nm n st | none => none } st

def hasL : Code → Nat → Bool
  | .seq a b, l => hasL a l || hasL b l
  | .label l', l => Nat.beq l' l
  | _, _ => false

/-- Jumps inside a scope. -/
def jumpN (body : Nat → K R → St → Option R) (has : Nat → Bool) (k : K R) (nm : Nat → St → Option St) : Nat → Nat → St → Option R
  | 0, _, _ => none
  | n + 1, l, st => cond (has l) (match nm l st with
    | some st => body l { k with gto := jumpN body has k nm n } st
    | none => none) (k.gto l st)

def nmOf (np : Nat) (a : Option Ann) (st : St) : Option St := match a with
  | some a => norm np a st
  | none => some st

/-- Code, from its begin or from a label on. -/
def evC (A : Anns) (np n : Nat) : Code → Option Nat → K R → St → Option R
  | .seq a b, none, k, st => evC A np n a none { k with nrm := evC A np n b none k } st
  | .seq a b, some l, k, st => cond (hasL a l) (evC A np n a (some l) { k with nrm := evC A np n b none k } st) (evC A np n b (some l) k st)
  | .label l', some l, k, st => cond (Nat.beq l' l) (k.nrm st) none
  | .skip, none, k, st => k.nrm st
  | .label _, none, k, st => k.nrm st
  | .region _ ops draw, none, k, st => evR G ops draw k.nrm st
  | .cond c a b, none, k, st => match evO st.t c with
    | .bool t => cond t (evC A np n a none k st) (evC A np n b none k st)
    | _ => none
  | .block id b, none, k, st => evC A np n b none { k with ext := fun i st => cond (Nat.beq i id) (k.nrm st) (k.ext i st) } st
  | .loop b, none, k, st => match nmOf np (A.loop (firstR b)) st with
    | some st => loopN (evC A np n b none) k (nmOf np (A.loop (firstR b))) n st
    | none => none
  | .exit id, none, k, st => k.ext id st
  | .goto l, none, k, st => k.gto l st
  | .scope b, none, k, st => evC A np n b none { k with gto := jumpN (fun l => evC A np n b (some l)) (hasL b) k (fun l => nmOf np (A.label l)) n } st
  | .ret, none, k, st => k.ret st
  | _, _, _, _ => none

/-! ### a function -/

/-- A result as it is handed back: slices of rows stay as they are from now on. -/
def frzS (h : List Blk) (v : AV) : Option AV := trA (hAt h) true (fun _ _ => none) v

def resV (st : St) : ResultVar → Option AV
  | .tmp i => some (st.t.getD i und)
  | .cell a t => match st.t.getD a und with
    | .ptr id path => match hAt st.h id with
      | .var v => match getP v path with
        | some x => cond (fits G.P t x) (some x) none
        | none => none
      | _ => none
    | _ => none

def resL (_fn : Func) (st : St) : List ResultVar → Option (List AV)
  | [] => some []
  | r :: l => match resV G st r, resL _fn st l with
    | some v, some vs => some (v :: vs)
    | _, _ => none

def coerceR (P : Program) (fn : Func) (l : List AV) : List AV := coerceL P fn.resultTypes.toList l

/-- The variables that came in are there, each of its shape. -/
def pinsOk : List Blk → List Blk → Bool
  | [], _ => true
  | .var v :: l, .var x :: m => Sh.beq (sh x) (sh v) && pinsOk l m
  | .var _ :: _, _ => false
  | _ :: l, _ :: m => pinsOk l m
  | _ :: _, [] => false

/-- What a function hands back when it has been handed np blocks. -/
def retE (fn : Func) (ps0 : List Blk) (κ : AV → List Blk → Option R) (st : St) : Option R :=
  match resL G fn st fn.results.toList with
  | none => none
  | some vs =>
    let np := ps0.length
    let ps := st.h.take np
    let E := (List.range np).map fun i => (i, ([] : List Nat))
    let news := (ps.flatMap fun b => match b with | .var v => rowIds v | _ => []).filter fun e => !Nat.blt e.1 np
    let E' := E ++ news
    let ρ : Ren := fun id path => match findE id [] E' 0 with | some (j, _) => some (j, path) | none => none
    cond (nodupN (E'.map (·.1))) (match trL (hAt st.h) true ρ (coerceR G.P fn vs) with
    | none => none
    | some vs' =>
      let bs := E'.map fun e => match trB (hAt st.h) true ρ (hAt st.h e.1) with | some b => b | none => .dead
      cond (pinsOk ps0 bs) (κ (match vs' with | [v] => v | vs' => .tup vs') bs) none) none

def noK : St → Option R := fun _ => none

/-- A function's body, carried out. -/
def evF (A : Anns) (n : Nat) (fn : Func) (args : List AV) (bs : List Blk) (κ : AV → List Blk → Option R) : Option R :=
  match fn.body with
  | none => none
  | some c => evC G A bs.length n c none { nrm := retE G fn bs κ, ext := fun _ => noK, gto := fun _ => noK, ret := retE G fn bs κ }
      ⟨args ++ List.replicate (fn.ntmps - args.length) und, bs⟩
end
end Go.Ev
