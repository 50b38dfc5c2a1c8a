/-
  A symbolic run of the model's code, its definitions and what its values stand for; no condition.
-/
import Derived.RangeFuncRecord
import Derived.Below
import Derived.Laws.StructEq
import Derived.Laws.Cells
import Derived.Laws.CopyRow
set_option linter.deprecated false
set_option linter.unusedVariables false
set_option linter.unusedSimpArgs false

/- A symbolic run of the model's code: the definitions. -/
namespace Go.Sx
noncomputable section

/-! ### Lists, by their recursors: what the kernel reads and writes fast -/
def dropR {α : Type} (n : Nat) (l : List α) : List α :=
  @Nat.rec (fun _ => List α → List α) (fun l => l) (fun _ ih l => ih (@List.casesOn α (fun _ => List α) l [] (fun _ t => t))) n l
def atR {α : Type} (l : List α) (n : Nat) : Option α := @List.casesOn α (fun _ => Option α) (dropR n l) none (fun a _ => some a)
def setR {α : Type} (n : Nat) (v : α) (l : List α) : List α :=
  @Nat.rec (fun _ => List α → List α) (fun l => @List.casesOn α (fun _ => List α) l [] (fun _ t => v :: t)) (fun _ ih l => @List.casesOn α (fun _ => List α) l [] (fun a t => a :: ih t)) n l

theorem dropR_eq {α : Type} : ∀ (n : Nat) (l : List α), dropR n l = l.drop n
  | 0, l => rfl
  | n + 1, [] => by
    have := dropR_eq n ([] : List α)
    simp only [List.drop_nil] at this ⊢
    exact this
  | n + 1, a :: l => by
    have := dropR_eq n l
    simp only [List.drop_succ_cons]
    exact this
theorem atR_eq {α : Type} (l : List α) (n : Nat) : atR l n = l[n]? := by
  unfold atR
  rw [dropR_eq, ← List.head?_drop]
  cases l.drop n <;> rfl
theorem setR_eq {α : Type} (v : α) : ∀ (n : Nat) (l : List α), setR n v l = l.set n v
  | 0, [] => rfl
  | 0, a :: l => rfl
  | n + 1, [] => rfl
  | n + 1, a :: l => by
    have := setR_eq v n l
    simp only [List.set_cons_succ]
    rw [← this]; rfl

/-- The kind of a leaf. -/
inductive K where
  | bool
  | int (k : IntKind)
  deriving DecidableEq, Inhabited, Repr

def K.norm : K → Int → Int
  | .bool, n => if n = 0 then 0 else 1
  | .int k, n => k.wrap n

/-- What is computed of two whole numbers of one kind (the second: of any, for the shifts). -/
def bop (op : BinOp) (k : IntKind) (a b : Int) : Int :=
  match op with
  | .add => k.wrap (a + b)
  | .sub => k.wrap (a - b)
  | .mul => k.wrap (a * b)
  | .quo => k.wrap (a.tdiv b)
  | .rem => a.tmod b
  | .and => k.wrap ((BitVec.ofInt k.bits a &&& BitVec.ofInt k.bits b).toNat)
  | .or => k.wrap ((BitVec.ofInt k.bits a ||| BitVec.ofInt k.bits b).toNat)
  | .xor => k.wrap ((BitVec.ofInt k.bits a ^^^ BitVec.ofInt k.bits b).toNat)
  | .andNot => k.wrap ((BitVec.ofInt k.bits a &&& ~~~BitVec.ofInt k.bits b).toNat)
  | .shl => k.wrap (a * 2 ^ (Nat.min b.toNat k.bits))
  | .shr => a.fdiv (2 ^ (Nat.min b.toNat k.bits))
  | _ => 0

def bcmp (op : BinOp) (a b : Int) : Bool :=
  match op with
  | .eql => a == b
  | .neq => a != b
  | .lss => decide (a < b)
  | .leq => decide (a ≤ b)
  | .gtr => decide (a > b)
  | .geq => decide (a ≥ b)
  | _ => false

def b2i (b : Bool) : Int := if b then 1 else 0

/-- Expressions: numbers and bools (0, 1). -/
inductive E where
  | var (k : K) (i : Nat)
  | lit (k : K) (n : Int)
  | bin (op : BinOp) (k k2 : IntKind) (a b : E)
  | conv (k : IntKind) (k1 : IntKind) (a : E)
  | cmp (op : BinOp) (k : K) (a b : E)
  | not (a : E)
  | ite (k : K) (c a b : E)
  | app (k : K) (s : Nat) (args : List (K × E)) (i : Nat)
  deriving Inhabited

abbrev Spec := Nat → List Int → List Int

mutual
def E.den (Φ : Spec) (ρ : Nat → Int) : E → Int
  | .var k i => k.norm (ρ i)
  | .lit k n => k.norm n
  | .bin op k k2 a b => bop op k (k.wrap (a.den Φ ρ)) (k2.wrap (b.den Φ ρ))
  | .conv k k1 a => k.wrap (k1.wrap (a.den Φ ρ))
  | .cmp op k a b => b2i (bcmp op (k.norm (a.den Φ ρ)) (k.norm (b.den Φ ρ)))
  | .not a => b2i (a.den Φ ρ == 0)
  | .ite k c a b => if c.den Φ ρ = 0 then k.norm (b.den Φ ρ) else k.norm (a.den Φ ρ)
  | .app k s args i => k.norm ((Φ s (E.denL Φ ρ args)).getD i 0)
def E.denL (Φ : Spec) (ρ : Nat → Int) : List (K × E) → List Int
  | [] => []
  | (k, e) :: r => k.norm (e.den Φ ρ) :: E.denL Φ ρ r
end

/-- How much a slice may hold: told, or what its block holds, less so many. -/
inductive Cap where
  | kn (n : Nat)
  | un (j : Nat)
  deriving Inhabited, Repr, DecidableEq

/-- Values. -/
inductive SV where
  | int (k : IntKind) (e : E)
  | bool (e : E)
  | ptr (b off : Nat)
  | nilptr
  | slice (b off len : Nat) (cap : Cap)
  | nilslice
  | etail (b off d j : Nat)      -- nothing, behind the last of a slice
  | sel (b off sz cnt : Nat) (i : E)     -- where element i lies, of so many of so many cells each
  | map (r : Nat)
  | nilmap
  | fn (f : Nat) (first captured : List SV)
  | yield (l : Nat)
  | nilfn
  | agg (cells : List SV)
  | tuple (vs : List SV)
  deriving Inhabited

/-- Objects. -/
inductive SO where
  | cells (cs : List SV) (elem : TypeId)
  | grow (cs : List SV) (elem : TypeId) (size : Nat)     -- the first cells are known; 'size': cells of an element
  | map (es : List (SV × SV)) (clock : Nat)
  | loop (st : LoopState) (pending : Option Code) (fn : FuncId) (tmps : List (Option SV)) (params : List Tmp) (assign body : Code)
  | bag                                                      -- a map that is being filled
  | look (ks : List K) (es : List (SV × SV))                 -- a map, its entries in whatever order; keys of whole numbers
  | dead
  deriving Inhabited

/-- 'nv': all variables are below it. -/
structure St where
  tmps : List (Option SV)
  heap : List SO
  nv : Nat
  deriving Inhabited

inductive X where
  | norm
  | exit (id : Nat)
  | goto (l : Nat)
  | ret
  deriving Inhabited

/-- 'loop': from so many first values on, in the variables from 'base' on, round and round; 'again': once more, of the loop of that label. -/
inductive T (α : Type) where
  | leaf (a : α)
  | ite (c : E) (t e : T α)
  | need (s : Nat) (args : List (K × E)) (k : T α)
  | loop (label : Nat) (init : List (K × E)) (base : Nat) (step : T α)
  | again (label : Nat) (es : List (K × E))
  | fail (why : String)
  deriving Inhabited

def T.bind {α β : Type} : T α → (α → T β) → T β
  | .leaf a, f => f a
  | .ite c t e, f => .ite c (t.bind f) (e.bind f)
  | .need s args k, f => .need s args (k.bind f)
  | .loop l i b t, f => .loop l i b (t.bind f)
  | .again l es, _ => .again l es
  | .fail w, _ => .fail w

/-- How a value of numbers and bools lies. -/
inductive VT where
  | one (k : K)
  | agg (ks : List K)
  deriving Inhabited, Repr, DecidableEq

/-- What is known of a function: arguments, results, its number among the specs. -/
structure Con where
  spec : Nat
  args : List VT
  res : List VT
  total : Bool     -- nothing is owed for it
  deriving Inhabited

/-- A place whose content a loop turns. -/
inductive Place where
  | tmp (t : Nat)
  | cell (b o : Nat)
  deriving Inhabited, Repr, DecidableEq

/-- How a loop is taken: the function, the block around it, how many objects there are where it begins; its label; its variables from 'base' on; the places that it turns; what is forgotten. -/
structure LoopAnn where
  cur : Nat
  block : Nat
  size : Nat
  base : Nat
  places : List (K × Place)
  forget : List Nat       -- slots
  dead : List Nat         -- blocks
  deriving Inhabited

structure Ctx where
  P : Program
  con : List (Nat × Con)
  fold : Nat → List Int → Option (List Int)    -- what some specs come to, computed
  loops : List LoopAnn
  tabs : List Nat := []      -- specs that tell a table's rows
  bag : Bool := false        -- within a region that fills a map
  add64 : Option Nat := none -- the number of math/bits.Add64

/-! ### Expressions that are made -/
def mkBin (op : BinOp) (k k2 : IntKind) (a b : E) : E :=
  match a, b with
  | .lit ka x, .lit kb y => .lit (.int k) (bop op k (k.wrap (ka.norm x)) (k2.wrap (kb.norm y)))
  | _, _ => .bin op k k2 a b

def mkCmp (op : BinOp) (k : K) (a b : E) : E :=
  match a, b with
  | .lit ka x, .lit kb y => .lit .bool (b2i (bcmp op (k.norm (ka.norm x)) (k.norm (kb.norm y))))
  | _, _ => .cmp op k a b

def mkConv (k k1 : IntKind) (a : E) : E :=
  match a with
  | .lit ka x => .lit (.int k) (k.wrap (k1.wrap (ka.norm x)))
  | _ => .conv k k1 a

def mkNot (a : E) : E :=
  match a with
  | .lit ka x => .lit .bool (b2i (ka.norm x == 0))
  | _ => .not a

def mkIte (k : K) (c a b : E) : E :=
  match c with
  | .lit kc x => if kc.norm x = 0 then b else a
  | _ => .ite k c a b

/-- a && b, both bools. -/
def mkAnd (a b : E) : E := mkIte .bool a b (.lit .bool 0)

def E.isLit : E → Option Int
  | .lit k n => some (k.norm n)
  | _ => none

/-- A whole number of kind k that is told. -/
def E.num (k : IntKind) : E → Option Int
  | .lit kn n => some (k.wrap (kn.norm n))
  | _ => none

/-- A branch. -/
def branch {α : Type} (c : E) (t e : T α) : T α :=
  match c with
  | .lit k n => if k.norm n = 0 then e else t
  | _ => .ite c t e

def lift {α : Type} (o : Option α) (why : String) : T α := match o with | some a => .leaf a | none => .fail why

/-! ### Tables -/
def sizeOf? (P : Program) (t : TypeId) : Option Nat := (P.info? t).map (·.size)
def isAgg? (P : Program) (t : TypeId) : Option Bool :=
  match P.underlying t with
  | some (.struct _) => some true
  | some (.array _ _) => some true
  | some _ => some false
  | none => none

mutual
/-- A constant of the program's. -/
def ofV : Value → Option SV
  | .int k n => if k.wrap n = n then some (.int k (.lit (.int k) n)) else none
  | .bool b => some (.bool (.lit .bool (b2i b)))
  | .pointer none => some .nilptr
  | .slice none 0 0 => some .nilslice
  | .map none => some .nilmap
  | .nilFunc => some .nilfn
  | .agg cs => (ofVL cs.toList).map .agg
  | .tuple cs => (ofVL cs.toList).map .tuple
  | _ => none
def ofVL : List Value → Option (List SV)
  | [] => some []
  | v :: r => match ofV v, ofVL r with
    | some a, some b => some (a :: b)
    | _, _ => none
end

def undefS : SV := .tuple []

def St.eval (st : St) : Operand → Option SV
  | .tmp t => match atR st.tmps t with | some (some v) => some v | _ => none
  | .const v => ofV v
  | .func f => some (.fn f [] [])
  | .global _ => none

def SV.cells : SV → List SV
  | .agg cs => cs
  | v => [v]

def zero? (P : Program) (t : TypeId) : Option SV := (P.info? t).bind fun i => i.zero.bind ofV

def seg {α : Type} (l : List α) (a n : Nat) : List α := (dropR a l).take n
theorem seg_eq {α : Type} (l : List α) (a n : Nat) : seg l a n = (l.drop a).take n := by unfold seg; rw [dropR_eq]

def part? (P : Program) (t : TypeId) (cs : List SV) (off : Nat) : Option SV :=
  match isAgg? P t, sizeOf? P t with
  | some true, some n => some (.agg (seg cs off n))
  | some false, _ => cs[off]?
  | _, _ => none

def field? (P : Program) (t : TypeId) (i : Nat) : Option Field :=
  match P.underlying t with
  | some (.struct fs) => fs[i]?
  | _ => none

/-- Cells laid over others. -/
def overlay (cs : List SV) (off : Nat) (new : List SV) : List SV := cs.take off ++ new ++ cs.drop (off + new.length)

def fill? (place : Nat → Option (Nat × Nat)) (cells : List SV) : List (Nat × SV) → Option (List SV)
  | [] => some cells
  | (i, v) :: rest =>
    match place i with
    | none => none
    | some (off, size) =>
      if v.cells.length = size ∧ off + v.cells.length ≤ cells.length then fill? place (overlay cells off v.cells) rest else none

def evalParts (st : St) : List (Nat × Operand) → Option (List (Nat × SV))
  | [] => some []
  | (i, x) :: r => match st.eval x, evalParts st r with
    | some v, some l => some ((i, v) :: l)
    | _, _ => none

def evalL (st : St) : List Operand → Option (List SV)
  | [] => some []
  | x :: r => match st.eval x, evalL st r with
    | some v, some l => some (v :: l)
    | _, _ => none

/-- The leaves' kinds of a type of numbers and bools alone, cell by cell. -/
def plainTy (P : Program) : Nat → TypeId → Option (List K)
  | 0, _ => none
  | n + 1, t =>
    match P.underlying t with
    | some (.int k) => some [.int k]
    | some .bool => some [.bool]
    | some (.struct fs) =>
      if P.stoodInHeld t then none else
      fs.toList.foldl (fun acc f => match acc, plainTy P n f.type with
        | some a, some b => if f.name ≠ "_" ∧ f.offset = a.length ∧ sizeOf? P f.type = some b.length then some (a ++ b) else none
        | _, _ => none) (some [])
    | _ => none

def kinds : List K → List SV → Option (List (K × E))
  | [], [] => some []
  | .bool :: ks, .bool e :: r => (kinds ks r).map ((.bool, e) :: ·)
  | .int k :: ks, .int k' e :: r => if k = k' then (kinds ks r).map ((.int k, e) :: ·) else none
  | _, _ => none

def eqL : List (K × E) → List (K × E) → E
  | (k, a) :: xs, (_, b) :: ys => mkAnd (mkCmp .eql k a b) (eqL xs ys)
  | _, _ => .lit .bool 1

/-- '==' of two values without memory: a bool expression. -/
def eqE (P : Program) (t : TypeId) (x y : SV) : Option E :=
  match x, y with
  | .int k a, .int k' b => if k = k' then some (mkCmp .eql (.int k) a b) else none
  | .bool a, .bool b => if (P.underlying t) matches some .bool then some (mkCmp .eql .bool a b) else none
  | .agg xs, .agg ys =>
    if P.eqGuardType P.depth t = true ∨ isAgg? P t ≠ some true then none else
    match plainTy P 20 t with
    | some ks => match kinds ks xs, kinds ks ys with
      | some a, some b => some (eqL a b)
      | _, _ => none
    | none => none
  | _, _ => none

/-- The cells of an object that may be read. -/
def SO.read : SO → Option (List SV)
  | .cells cs _ => some cs
  | .grow cs _ _ => some cs
  | _ => none

def SO.write : SO → List SV → Option SO
  | .cells _ e, cs => some (.cells cs e)
  | .grow _ e n, cs => some (.grow cs e n)
  | _, _ => none

def readAt (h : List SO) (b : Nat) : Option (List SV) := (atR h b).bind SO.read

def load? (P : Program) (h : List SO) (t : TypeId) (b off : Nat) : Option SV :=
  match readAt h b, isAgg? P t, sizeOf? P t with
  | some cs, some true, some n => if off + n ≤ cs.length then some (.agg (seg cs off n)) else none
  | some cs, some false, _ => atR cs off
  | _, _, _ => none

/-- What an operation makes: a value; blocks that are turned; blocks that are new. -/
structure R where
  v : Option SV
  upd : List (Nat × SO)
  new : List SO
  deriving Inhabited

def R.val (v : SV) : R := ⟨some v, [], []⟩
def R.skip : R := ⟨none, [], []⟩

def setAll (h : List SO) : List (Nat × SO) → List SO
  | [] => h
  | (i, o) :: r => setAll (setR i o h) r

def R.heap (r : R) (h : List SO) : List SO := setAll h r.upd ++ r.new

def SV.oneCell : SV → Bool
  | .agg _ => false
  | .tuple _ => false
  | _ => true

/-- A store: the block, turned. -/
def store? (P : Program) (ro : Nat) (h : List SO) (t : TypeId) (b off : Nat) (v : SV) : Option R :=
  if b < ro then none else
  match atR h b, sizeOf? P t with
  | some o, some n => match o.read with
    | some cs =>
      if n = v.cells.length ∧ off + v.cells.length ≤ cs.length ∧ v.cells.all SV.oneCell = true then
        match o.write (overlay cs off v.cells) with
        | some o' => some ⟨none, [(b, o')], []⟩
        | none => none
      else none
    | none => none
  | _, _ => none

def look (q : IntKind) (a : E) : List (SV × SV) → T (Option SV)
  | [] => .leaf none
  | (.int q' b, v) :: r => if q = q' then branch (mkCmp .eql (.int q) a b) (.leaf (some v)) (look q a r) else .fail "map key"
  | _ :: _ => .fail "map key"

/-- Where a key stands. -/
def place (q : IntKind) (a : E) : List (SV × SV) → Nat → T (Option Nat)
  | [], _ => .leaf none
  | (.int q' b, _) :: r, i => if q = q' then branch (mkCmp .eql (.int q) a b) (.leaf (some i)) (place q a r (i + 1)) else .fail "map key"
  | _ :: _, _ => .fail "map key"

/-- A struct of whole numbers: its cells' kinds. -/
def flatKey? (P : Program) (t : TypeId) : Option (List K) :=
  match P.underlying t, plainTy P 20 t with
  | some (.struct fs), some ks => if fs.toList.all (fun f => match P.underlying f.type with | some (.int _) => true | _ => false) = true ∧ ks.all (fun k => match k with | .int _ => true | .bool => false) = true then some ks else none
  | _, _ => none

def litVals : List (K × E) → Option (List Int)
  | [] => some []
  | (k, .lit k' n) :: r => (litVals r).map (k.norm (k'.norm n) :: ·)
  | _ => none

/-- A key that is told. -/
def litKey (ks : List K) : SV → Option (List Int)
  | .agg cs => (kinds ks cs).bind litVals
  | _ => none

def litKeys (ks : List K) : List (SV × SV) → Option (List (List Int))
  | [] => some []
  | p :: r => match litKey ks p.1, litKeys ks r with
    | some a, some b => some (a :: b)
    | _, _ => none

/-- What stands at a key that is told. -/
def lookS (ks : List K) (k : List Int) : List (SV × SV) → Option SV
  | [] => none
  | p :: r => if litKey ks p.1 = some k then some p.2 else lookS ks k r

def flatArgs : List VT → List SV → Option (List (K × E))
  | [], [] => some []
  | .one k :: ts, v :: r => match kinds [k] [v], flatArgs ts r with
    | some a, some b => some (a ++ b)
    | _, _ => none
  | .agg ks :: ts, .agg cs :: r => match kinds ks cs, flatArgs ts r with
    | some a, some b => some (a ++ b)
    | _, _ => none
  | _, _ => none

def VT.size : VT → Nat
  | .one _ => 1
  | .agg ks => ks.length

def leafOf (k : K) (e : E) : SV := match k with | .bool => .bool e | .int k => .int k e

def resCells (app : K → Nat → E) : List K → Nat → List SV
  | [], _ => []
  | k :: ks, i => leafOf k (app k i) :: resCells app ks (i + 1)

def resOne (app : K → Nat → E) (t : VT) (i : Nat) : SV :=
  match t with
  | .one k => leafOf k (app k i)
  | .agg ks => .agg (resCells app ks i)

def resAll (app : K → Nat → E) : List VT → Nat → List SV
  | [], _ => []
  | t :: ts, i => resOne app t i :: resAll app ts (i + t.size)

def tupled (l : List SV) : SV := match l with | [v] => v | l => .tuple l

/-- A call by what is known of the function. -/
def byCon (C : Ctx) (c : Con) (args : List SV) : T SV :=
  match flatArgs c.args args with
  | none => .fail "arguments"
  | some l =>
    match (litVals l).bind (C.fold c.spec) with
    | some vs => .leaf (tupled (resAll (fun k i => .lit k (vs.getD i 0)) c.res 0))
    | none =>
      let res : T SV := .leaf (tupled (resAll (fun k i => .app k c.spec l i) c.res 0))
      if c.total then res else .need c.spec l res

/-! ### One operation (no call of a Go function) -/
/-- Few enough to stand in memory. -/
def few : Nat := 1000000

def ptr? : SV → Option (Nat × Nat)
  | .ptr b off => some (b, off)
  | _ => none

def int? : SV → Option (IntKind × E)
  | .int k e => some (k, e)
  | _ => none

/-- A whole number that is told. -/
def num? : SV → Option Int
  | .int k e => e.num k
  | _ => none

def nat? (v : SV) : Option Nat := match num? v with | some n => if 0 ≤ n then some n.toNat else none | none => none

def cells? : SV → Option (List SV)
  | .agg cs => some cs
  | _ => none

def binS (P : Program) (op : BinOp) (t : TypeId) (x y : SV) : T R :=
  match op, x, y with
  | .shl, .int k a, .int k2 b | .shr, .int k a, .int k2 b =>
    branch (mkCmp .lss (.int k2) b (.lit (.int k2) 0)) (.fail "negative shift") (.leaf (R.val (.int k (mkBin op k k2 a b))))
  | .quo, .int k a, .int k2 b | .rem, .int k a, .int k2 b =>
    if k = k2 then branch (mkCmp .eql (.int k2) b (.lit (.int k2) 0)) (.fail "division by zero") (.leaf (R.val (.int k (mkBin op k k2 a b)))) else .fail "kinds"
  | .add, .int k a, .int k2 b | .sub, .int k a, .int k2 b | .mul, .int k a, .int k2 b
  | .and, .int k a, .int k2 b | .or, .int k a, .int k2 b | .xor, .int k a, .int k2 b | .andNot, .int k a, .int k2 b =>
    if k = k2 then .leaf (R.val (.int k (mkBin op k k2 a b))) else .fail "kinds"
  | .lss, .int k a, .int k2 b | .leq, .int k a, .int k2 b | .gtr, .int k a, .int k2 b | .geq, .int k a, .int k2 b
  | .neq, .int k a, .int k2 b | .eql, .int k a, .int k2 b =>
    if k = k2 then .leaf (R.val (.bool (mkCmp op (.int k) a b))) else .fail "kinds"
  | .eql, .fn _ _ _, .nilfn | .eql, .nilfn, .fn _ _ _ => if (P.underlying t) matches some (.func ..) then .leaf (R.val (.bool (.lit .bool 0))) else .fail "=="
  | .neq, .fn _ _ _, .nilfn | .neq, .nilfn, .fn _ _ _ => if (P.underlying t) matches some (.func ..) then .leaf (R.val (.bool (.lit .bool 1))) else .fail "!="
  | .eql, .nilfn, .nilfn => if (P.underlying t) matches some (.func ..) then .leaf (R.val (.bool (.lit .bool 1))) else .fail "=="
  | .neq, .nilfn, .nilfn => if (P.underlying t) matches some (.func ..) then .leaf (R.val (.bool (.lit .bool 0))) else .fail "!="
  | .eql, x, y => match eqE P t x y with | some e => .leaf (R.val (.bool e)) | none => .fail "=="
  | .neq, x, y => match eqE P t x y with | some e => .leaf (R.val (.bool (mkNot e))) | none => .fail "!="
  | _, _, _ => .fail "binOp"

def unS (op : UnOp) (x : SV) : T R :=
  match op, x with
  | .neg, .int k a => .leaf (R.val (.int k (mkBin .sub k k (.lit (.int k) 0) a)))
  | .xor, .int k a => .leaf (R.val (.int k (mkBin .xor k k (.lit (.int k) (if k.signed then -1 else k.max)) a)))
  | .not, .bool a => .leaf (R.val (.bool (mkNot a)))
  | _, _ => .fail "unOp"

def convS (P : Program) (src dst : TypeId) (x : SV) : T R :=
  match P.underlying src, P.underlying dst, x with
  | some _, some (.int k), .int k1 a => .leaf (R.val (.int k (mkConv k k1 a)))
  | _, _, _ => .fail "convert"

def indexAddrS (P : Program) (t : TypeId) (x i : SV) : T R :=
  match P.underlying t, x, nat? i with
  | some (.array n e), .ptr b off, some j =>
    match sizeOf? P e with
    | some sz => if j < n then .leaf (R.val (.ptr b (off + j * sz))) else .fail "index"
    | none => .fail "type"
  | some (.slice e), .slice b off len _, some j =>
    match sizeOf? P e with
    | some sz => if j < len then .leaf (R.val (.ptr b (off + j * sz))) else .fail "index"
    | none => .fail "type"
  | some (.slice e), .slice b off len _, none =>
    match sizeOf? P e, i with
    | some sz, .int .i64 ie =>
      branch (mkCmp .leq (.int .i64) (.lit (.int .i64) 0) ie) (if len ≤ few then branch (mkCmp .lss (.int .i64) ie (.lit (.int .i64) len)) (.leaf (R.val (.sel b off sz len ie))) (.fail "index") else .fail "index") (.fail "index")
    | _, _ => .fail "index"
  | _, _, _ => .fail "indexAddr"

def sliceS (P : Program) (h : List SO) (t : TypeId) (x : SV) (lo hi : Option SV) : T R :=
  match P.underlying t, x with
  | some (.slice e), .slice b off len cap =>
    match sizeOf? P e, (match lo with | none => some 0 | some v => nat? v), (match hi with | none => some len | some v => nat? v) with
    | some sz, some l, some m =>
      match cap with
      | .kn c => if l ≤ m ∧ m ≤ c ∧ l < c then .leaf (R.val (.slice b (off + l * sz) (m - l) (.kn (c - l)))) else .fail "slice"
      | .un j =>
        match h[b]? with
        | some (.grow cs _ sz') =>
          if sz = sz' ∧ l = len ∧ m = len ∧ 0 < len ∧ (j + len) * sz ≤ cs.length ∧ 0 < sz then .leaf (R.val (.etail b off (l * sz) (j + l))) else
          if sz = sz' ∧ l ≤ m ∧ l < len ∧ (j + m) * sz ≤ cs.length ∧ (j + len) * sz ≤ cs.length ∧ 0 < sz then .leaf (R.val (.slice b (off + l * sz) (m - l) (.un (j + l)))) else .fail "slice"
        | _ => .fail "slice"
    | _, _, _ => .fail "slice"
  | _, _ => .fail "slice"

/-- The elements of a slice, as cells. -/
def elems? (h : List SO) (sz : Nat) : SV → Option (List SV)
  | .nilslice => some []
  | .slice b off len _ => match readAt h b with
    | some cs => if off + len * sz ≤ cs.length then some (seg cs off (len * sz)) else none
    | none => none
  | _ => none

def isSliceTy (P : Program) (t : TypeId) : Bool := match P.underlying t with | some (.slice _) => true | _ => false

/-- Is there room for so much in an array of the model's? -/
def roomFor (P : Program) (e : TypeId) (sz by_ : Nat) (xs ys : List SV) : Bool :=
  decide (by_ ≤ few) && decide (xs.length + ys.length ≤ few) && decide (0 < sz) && decide (0 < by_) && !ys.isEmpty && ys.all SV.oneCell &&
  (match zero? P e with | some z => decide (z.cells.length = sz) | none => false)

def appendS (P : Program) (ro : Nat) (h : List SO) (t t2 : TypeId) (x y : SV) : T R :=
  match P.underlying t, isSliceTy P t2 with
  | some (.slice e), true =>
    match sizeOf? P e, (P.info? e).map (·.bytes) with
    | some sz, some by_ =>
      match elems? h sz x, elems? h sz y with
      | some xs, some ys =>
        if roomFor P e sz by_ xs ys = true then
          match x with
          | .nilslice => .leaf ⟨some (.slice h.length 0 (ys.length / sz) (.un 0)), [], [.grow (xs ++ ys) e sz]⟩
          | .slice b off len (.un 0) =>
            match h[b]? with
            | some (.grow cs e' sz') =>
              if ro ≤ b ∧ off = 0 ∧ e' = e ∧ sz' = sz ∧ cs.length = len * sz then .leaf ⟨some (.slice h.length 0 (len + ys.length / sz) (.un 0)), [(b, .dead)], [.grow (xs ++ ys) e sz]⟩ else .fail "append"
            | _ => .fail "append"
          | .slice _ _ len (.kn c) =>
            if len + ys.length / sz ≤ c then .fail "append within" else .leaf ⟨some (.slice h.length 0 (len + ys.length / sz) (.un 0)), [], [.grow (xs ++ ys) e sz]⟩
          | _ => .fail "append"
        else .fail "append: size"
      | _, _ => .fail "append"
    | _, _ => .fail "append"
  | _, _ => .fail "append"

def minmax (mx : Bool) : SV → List SV → T SV
  | v, [] => .leaf v
  | .int k a, .int k' b :: r => if k = k' then minmax mx (.int k (mkIte (.int k) (mkCmp (if mx then .gtr else .lss) (.int k) b a) b a)) r else .fail "min"
  | _, _ => .fail "min"

def lenR (n : Nat) : T R := if n ≤ few then .leaf (R.val (.int .i64 (.lit (.int .i64) n))) else .fail "len"

/-- How long a value of that type is. -/
def len? (d : Option TypeDesc) (x : SV) : Option Nat :=
  match d, x with
  | some (.slice _), .slice _ _ n _ => some n
  | some (.slice _), .nilslice => some 0
  | some (.slice _), .etail _ _ _ _ => some 0
  | some (.array n _), _ => some n
  | _, _ => none

def builtinS (C : Ctx) (ro : Nat) (h : List SO) (b : Builtin) (ts : List TypeId) (args : List SV) : T R :=
  match b, args with
  | .len, [x] => match ts with
    | [t] => (lift (len? (C.P.underlying t) x) "len").bind lenR
    | _ => .fail "len"
  | .append, [x, y] => match ts with
    | [t, t2] => appendS C.P ro h t t2 x y
    | _ => .fail "append"
  | .min, v :: r => (minmax false v r).bind fun v => .leaf (R.val v)
  | .max, v :: r => (minmax true v r).bind fun v => .leaf (R.val v)
  | _, _ => .fail "builtin"

def isIntTy (P : Program) (t : TypeId) : Bool := match P.underlying t with | some (.int _) => true | _ => false

def inserted (r : Nat) (es : List (SV × SV)) (cl : Nat) (kk : IntKind) (ke : E) (v : SV) : Option Nat → T R
  | some i => .leaf ⟨none, [(r, .map (es.modify i fun e => (e.1, v)) cl)], []⟩
  | none => .leaf ⟨none, [(r, .map (es ++ [(.int kk ke, v)]) (cl + 1))], []⟩

def looked (ok : Bool) (z : SV) : Option SV → T R
  | some v => .leaf (R.val (if ok then .tuple [v, .bool (.lit .bool 1)] else v))
  | none => .leaf (R.val (if ok then .tuple [z, .bool (.lit .bool 0)] else z))

/-- Row r of what lies there is what the table tells. -/
def selRow (C : Ctx) (s : Nat) (ks : List K) (cs : List SV) (off sz r : Nat) : Bool :=
  match kinds ks (seg cs (off + r * sz) sz) with
  | some l => match litVals l, C.fold s [(r : Int)] with
    | some a, some b => a == b
    | _, _ => false
  | none => false

/-- What lies at element i. -/
def loadSel (C : Ctx) (h : List SO) (t : TypeId) (b off sz cnt : Nat) (i : E) : T R :=
  match readAt h b, isAgg? C.P t, sizeOf? C.P t, plainTy C.P 20 t with
  | some cs, some true, some sz', some ks =>
    if sz' = sz ∧ off + cnt * sz ≤ cs.length ∧ cnt ≤ few then
      match C.tabs.find? (fun s => (List.range cnt).all fun r => selRow C s ks cs off sz r) with
      | some s => branch (mkCmp .leq (.int .i64) (.lit (.int .i64) 0) i) (branch (mkCmp .lss (.int .i64) i (.lit (.int .i64) cnt)) (.leaf (R.val (.agg (resCells (fun k j => .app k s [(.int .i64, i)] j) ks 0)))) (.fail "index")) (.fail "index")
      | none => .fail "table"
    else .fail "load"
  | _, _, _, _ => .fail "load"

def sop (C : Ctx) (ro : Nat) (st : St) (o : Oper) : T R :=
  let P := C.P
  let h := st.heap
  match o.op with
  | .move x | .assign x => (lift (st.eval x) "operand").bind fun v => .leaf (R.val v)
  | .pick c a b =>
    match st.eval c, st.eval a, st.eval b with
    | some (.bool c), some (.bool a), some (.bool b) => .leaf (R.val (.bool (mkIte .bool c a b)))
    | some (.bool c), some (.int k a), some (.int k' b) => if k = k' then .leaf (R.val (.int k (mkIte (.int k) c a b))) else .fail "pick"
    | some (.bool c), _, _ => branch c ((lift (st.eval a) "operand").bind fun v => .leaf (R.val v)) ((lift (st.eval b) "operand").bind fun v => .leaf (R.val v))
    | _, _, _ => .fail "pick"
  | .alloc t => (lift (zero? P t) "zero").bind fun v => .leaf ⟨some (.ptr h.length 0), [], [.cells v.cells t]⟩
  | .box t x => (lift (st.eval x) "operand").bind fun v => .leaf ⟨some (.ptr h.length 0), [], [.cells v.cells t]⟩
  | .build t parts =>
    match zero? P t, evalParts st parts.toList, P.underlying t with
    | some z, some ps, some (.struct fs) =>
      if !(fs.toList.all fun f => (sizeOf? P f.type).isSome) then .fail "build" else
      (lift (fill? (fun i => match field? P t i with | some f => (sizeOf? P f.type).map (f.offset, ·) | none => none) z.cells ps) "build").bind fun cs => .leaf (R.val (.agg cs))
    | some z, some ps, some (.array _ e) =>
      match sizeOf? P e with
      | some n => (lift (fill? (fun i => some (i * n, n)) z.cells ps) "build").bind fun cs => .leaf (R.val (.agg cs))
      | none => .fail "build"
    | _, _, _ => .fail "build"
  | .buildSlice t len parts =>
    match P.underlying t, evalParts st parts.toList with
    | some (.slice e), some ps =>
      match sizeOf? P e, zero? P e with
      | some n, some z =>
        if len * n ≤ 16777216 ∧ z.cells.length = n ∧ 0 < n then
          (lift (fill? (fun i => some (i * n, n)) (List.replicate len z.cells).flatten ps) "buildSlice").bind fun cs =>
            .leaf ⟨some (.slice h.length 0 len (.kn len)), [], [.cells cs e]⟩
        else .fail "buildSlice"
      | _, _ => .fail "buildSlice"
    | _, _ => .fail "buildSlice"
  | .load t a =>
    match st.eval a with
    | some (.ptr b off) => (lift (load? P h t b off) "load").bind fun v => .leaf (R.val v)
    | some (.sel b off sz cnt i) => loadSel C h t b off sz cnt i
    | _ => .fail "load"
  | .store t a x =>
    match (st.eval a).bind ptr?, st.eval x with
    | some (b, off), some v => lift (store? P ro h t b off v) "store"
    | _, _ => .fail "store"
  | .nilCheck x =>
    match st.eval x with
    | some (.ptr b off) => .leaf (R.val (.ptr b off))
    | some (.fn f a b) => .leaf (R.val (.fn f a b))
    | _ => .fail "nilCheck"
  | .binOp op t x y _ =>
    match st.eval x, st.eval y with
    | some a, some b => binS P op t a b
    | _, _ => .fail "operand"
  | .unOp op _ x => (lift (st.eval x) "operand").bind (unS op)
  | .convert s d x => (lift (st.eval x) "operand").bind (convS P s d)
  | .makeFunc (.func f) first captured =>
    match evalL st first.toList, evalL st captured.toList with
    | some a, some b => .leaf (R.val (.fn f a b))
    | _, _ => .fail "makeFunc"
  | .makeMap _ none => .leaf ⟨some (.map h.length), [], [if C.bag = true then .bag else .map [] 0]⟩
  | .insert t m k v | .mapUpdate t m k v =>
    match P.underlying t, st.eval m, st.eval k, st.eval v with
    | some (.map kt _), some (.map r), some (.int kk ke), some v =>
      if ro ≤ r ∧ isIntTy P kt = true then
        match h[r]? with
        | some (.map es cl) => (place kk ke es 0).bind (inserted r es cl kk ke v)
        | _ => .fail "map"
      else .fail "map"
    | _, _, _, _ => .fail "insert"
  | .lookup t m k ok =>
    match P.underlying t, st.eval m, st.eval k with
    | some (.map kt et), some (.map r), some (.int kk ke) =>
      if isIntTy P kt = true then
        match h[r]?, zero? P et with
        | some (.map es _), some z => (look kk ke es).bind (looked ok z)
        | _, _ => .fail "lookup"
      else .fail "lookup"
    | some (.map kt _), some (.map r), some (.agg kc) =>
      match h[r]? with
      | some (.look ks es) =>
        match flatKey? P kt, litKey ks (.agg kc), litKeys ks es with
        | some ks', some k, some keys =>
          if ks' = ks ∧ keys.Nodup then
            match lookS ks k es with
            | some v => .leaf (R.val (if ok then .tuple [v, .bool (.lit .bool 1)] else v))
            | none => .fail "lookup"
          else .fail "lookup"
        | _, _, _ => .fail "lookup"
      | _ => .fail "lookup"
    | _, _, _ => .fail "lookup"
  | .slice t x lo hi none =>
    match st.eval x, (match lo with | none => some none | some l => (st.eval l).map some), (match hi with | none => some none | some l => (st.eval l).map some) with
    | some x, some lo, some hi => sliceS P h t x lo hi
    | _, _, _ => .fail "slice"
  | .fieldAddr t x i =>
    match field? P t i, (st.eval x).bind ptr? with
    | some f, some (b, off) => match sizeOf? P f.type with
      | some (_ + 1) => .leaf (R.val (.ptr b (off + f.offset)))
      | _ => .fail "fieldAddr"
    | _, _ => .fail "fieldAddr"
  | .indexAddr t x i =>
    match st.eval x, st.eval i with
    | some x, some i => indexAddrS P t x i
    | _, _ => .fail "indexAddr"
  | .field t x i =>
    match field? P t i, (st.eval x).bind cells? with
    | some f, some cs => (lift (part? P f.type cs f.offset) "field").bind fun v => .leaf (R.val v)
    | _, _ => .fail "field"
  | .index t (.const (.string b)) i =>
    match P.underlying t, (st.eval i).bind nat? with
    | some .string, some j => match b[j]? with
      | some c => .leaf (R.val (.int .u8 (.lit (.int .u8) c.toNat)))
      | none => .fail "index"
    | _, _ => .fail "index"
  | .index t x i =>
    match P.underlying t, (st.eval x).bind cells?, (st.eval i).bind nat? with
    | some (.array n e), some cs, some j => match sizeOf? P e with
      | some sz => if j < n then (lift (part? P e cs (j * sz)) "index").bind fun v => .leaf (R.val v) else .fail "index"
      | none => .fail "index"
    | _, _, _ => .fail "index"
  | .extract x i =>
    match st.eval x with
    | some (.tuple vs) => (lift vs[i]? "extract").bind fun v => .leaf (R.val v)
    | _ => .fail "extract"
  | .call { callee := .builtin b, args, argTypes } =>
    match evalL st args.toList with
    | some vs => builtinS C ro h b argTypes.toList vs
    | none => .fail "builtin"
  | _ => .fail "operation"

/-! ### Loops -/
mutual
def E.beq : E → E → Bool
  | .var k i, .var k' i' => decide (k = k') && i == i'
  | .lit k n, .lit k' n' => decide (k = k') && n == n'
  | .bin op k k2 a b, .bin op' k' k2' a' b' => decide (op = op') && decide (k = k') && decide (k2 = k2') && a.beq a' && b.beq b'
  | .conv k k1 a, .conv k' k1' a' => decide (k = k') && decide (k1 = k1') && a.beq a'
  | .cmp op k a b, .cmp op' k' a' b' => decide (op = op') && decide (k = k') && a.beq a' && b.beq b'
  | .not a, .not a' => a.beq a'
  | .ite k c a b, .ite k' c' a' b' => decide (k = k') && c.beq c' && a.beq a' && b.beq b'
  | .app k s l i, .app k' s' l' i' => decide (k = k') && s == s' && i == i' && E.beqL l l'
  | _, _ => false
def E.beqL : List (K × E) → List (K × E) → Bool
  | [], [] => true
  | (k, a) :: r, (k', a') :: r' => decide (k = k') && a.beq a' && E.beqL r r'
  | _, _ => false
end

mutual
/-- All variables are below a bound. -/
def E.under (n : Nat) : E → Bool
  | .var _ i => decide (i < n)
  | .lit _ _ => true
  | .bin _ _ _ a b => a.under n && b.under n
  | .conv _ _ a => a.under n
  | .cmp _ _ a b => a.under n && b.under n
  | .not a => a.under n
  | .ite _ c a b => c.under n && a.under n && b.under n
  | .app _ _ l _ => E.underL n l
def E.underL (n : Nat) : List (K × E) → Bool
  | [] => true
  | (_, a) :: r => a.under n && E.underL n r
end

/-- A leaf's expression at a loop's head: one of the loop's own variables, or what it was. -/
def headE (q : K) (base : Nat) (vs : List (K × E)) (h e : E) : Bool :=
  match h with
  | .var k i => if base ≤ i then (match vs[i - base]? with | some (k', e') => decide (k = k') && decide (k = q) && e.beq e' | none => false) else h.beq e
  | _ => h.under base && h.beq e

mutual
/-- Is a value what stands at a loop's head, with these for its variables? -/
def sameSV (base : Nat) (vs : List (K × E)) : SV → SV → Bool
  | .int k h, .int k' e => decide (k = k') && headE (.int k) base vs h e
  | .bool h, .bool e => headE .bool base vs h e
  | .ptr b o, .ptr b' o' => b == b' && o == o'
  | .nilptr, .nilptr => true
  | .slice b o n c, .slice b' o' n' c' => b == b' && o == o' && n == n' && decide (c = c')
  | .nilslice, .nilslice => true
  | .etail b o d j, .etail b' o' d' j' => b == b' && o == o' && d == d' && j == j'
  | .sel b o z c h, .sel b' o' z' c' e => b == b' && o == o' && z == z' && c == c' && headE (.int .i64) base vs h e
  | .map r, .map r' => r == r'
  | .nilmap, .nilmap => true
  | .fn f a b, .fn f' a' b' => f == f' && sameL base vs a a' && sameL base vs b b'
  | .yield l, .yield l' => l == l'
  | .nilfn, .nilfn => true
  | .agg a, .agg a' => sameL base vs a a'
  | .tuple a, .tuple a' => sameL base vs a a'
  | _, _ => false
def sameL (base : Nat) (vs : List (K × E)) : List SV → List SV → Bool
  | [], [] => true
  | a :: r, a' :: r' => sameSV base vs a a' && sameL base vs r r'
  | _, _ => false
end

def sameTmps (base : Nat) (vs : List (K × E)) : List (Option SV) → List (Option SV) → Bool
  | [], [] => true
  | none :: r, _ :: r' => sameTmps base vs r r'
  | some a :: r, some a' :: r' => sameSV base vs a a' && sameTmps base vs r r'
  | _, _ => false

def sameMap (base : Nat) (vs : List (K × E)) : List (SV × SV) → List (SV × SV) → Bool
  | [], [] => true
  | (k, v) :: r, (k', v') :: r' => sameSV base vs k k' && sameSV base vs v v' && sameMap base vs r r'
  | _, _ => false

/-- Loops that are under way are not compared: no loop's head may hold one. -/
def sameSO (base : Nat) (vs : List (K × E)) : SO → SO → Bool
  | .dead, _ => true
  | .cells a e, .cells a' e' => e == e' && sameL base vs a a'
  | .grow a e n, .grow a' e' n' => e == e' && n == n' && sameL base vs a a'
  | .map es c, .map es' c' => c == c' && sameMap base vs es es'
  | _, _ => false

def sameHeap (base : Nat) (vs : List (K × E)) : List SO → List SO → Bool
  | [], [] => true
  | a :: r, a' :: r' => sameSO base vs a a' && sameHeap base vs r r'
  | _, _ => false

def sameSt (base : Nat) (vs : List (K × E)) (H st : St) : Bool := sameTmps base vs H.tmps st.tmps && sameHeap base vs H.heap st.heap

def leafE : SV → Option (K × E)
  | .int k e => some (.int k, e)
  | .bool e => some (.bool, e)
  | _ => none

def readPlace (st : St) (p : K × Place) : Option (K × E) :=
  match (match p.2 with | .tmp t => (match st.tmps[t]? with | some (some v) => some v | _ => none) | .cell b o => (readAt st.heap b).bind (·[o]?)) with
  | some v => match leafE v with
    | some (k, e) => if k = p.1 then some (k, e) else none
    | none => none
  | none => none

def setPlaces (base : Nat) : List (K × Place) → Nat → St → Option St
  | [], _, st => some st
  | (k, .tmp t) :: r, i, st => setPlaces base r (i + 1) { st with tmps := st.tmps.set t (some (leafOf k (.var k (base + i)))) }
  | (k, .cell b o) :: r, i, st =>
    match st.heap[b]? with
    | some ob => match ob.read with
      | some cs => match ob.write (cs.set o (leafOf k (.var k (base + i)))) with
        | some ob' => setPlaces base r (i + 1) { st with heap := st.heap.set b ob' }
        | none => none
      | none => none
    | none => none

/-- What is known at a loop's head. -/
def absSt (a : LoopAnn) (st : St) : Option St :=
  (setPlaces a.base a.places 0 st).map fun st =>
    { st with tmps := a.forget.foldl (fun l t => l.set t none) st.tmps, heap := a.dead.foldl (fun l b => l.set b .dead) st.heap, nv := a.base + a.places.length }

/-! ### Code -/
def setTmp (l : List (Option SV)) (d : Option Tmp) (v : SV) : List (Option SV) := match d with | some t => setR t (some v) l | none => l

/-- One operation's doing within a region that draws its order: none: not wanted. -/
structure Did where
  ran : Bool
  r : R
  deriving Inhabited

def ttS : SV := .bool (.lit .bool 1)
def ffS : SV := .bool (.lit .bool 0)

/-- A branch on what a slot holds: from there on it is known. -/
def branchAt {α : Type} (c : E) (t : Tmp) (l : List (Option SV)) (yes no : List (Option SV) → T α) : T α :=
  match c with
  | .lit k n => if k.norm n = 0 then no l else yes l
  | _ => .ite c (yes (l.set t (some ttS))) (no (l.set t (some ffS)))

/-- Is the operation wanted? -/
def wanted {α : Type} (ops : List Oper) (l : List (Option SV)) (o : Oper) (yes no : List (Option SV) → T α) : T α :=
  match o.guard with
  | none => yes l
  | some (j, want) =>
    match (ops[j]?).bind (·.dst) with
    | some t => match atR l t with
      | some (some (.bool e)) => if want then branchAt e t l yes no else branchAt e t l no yes
      | some (some (.tuple [])) => no l
      | _ => .fail "guard"
    | none => .fail "guard"

/-- In a region that draws its order: is the operation wanted? What its guard has yielded is told. -/
def wantedDid (ops : List Oper) (m : Nat) (ds : List Did) (o : Oper) : Option Bool :=
  match o.guard with
  | none => some true
  | some (j, want) =>
    if m.testBit j = true ∧ ((ops[j]?).bind (·.dst)).isSome = true then
      match ds[j]? with
      | some ⟨true, ⟨some (.bool (.lit k n)), _, _⟩⟩ => some (decide (k.norm n ≠ 0) == want)
      | some ⟨false, _⟩ => some false
      | _ => none
    else none

def isGuard (ops : List Oper) (j : Nat) : Bool := ops.any fun o => match o.guard with | some (i, _) => i == j | none => false

/-- What a guard yields is told from there on. -/
def settle {α : Type} (ops : List Oper) (j : Nat) (r : R) (k : R → T α) : T α :=
  if isGuard ops j = true then
    match r.v with
    | some (.bool e) => branch e (k { r with v := some ttS }) (k { r with v := some ffS })
    | _ => .fail "guard"
  else k r

def callee? (st : St) : Oper → Option (SV × List SV)
  | { op := .call { callee := .value f, args, .. }, .. } =>
    match st.eval f, evalL st args.toList with
    | some v, some l => some (v, l)
    | _, _ => none
  | _ => none

def isCall : Oper → Bool
  | { op := .call { callee := .value _, .. }, .. } => true
  | _ => false

/-- Does it look into memory? -/
def reads (C : Ctx) : Oper → Bool
  | { op := .move _, .. } | { op := .assign _, .. } | { op := .pick .., .. } | { op := .alloc _, .. } | { op := .box .., .. } | { op := .build .., .. } | { op := .buildSlice .., .. }
  | { op := .nilCheck _, .. } | { op := .binOp .., .. } | { op := .unOp .., .. } | { op := .convert .., .. } | { op := .makeFunc .., .. } | { op := .makeMap .., .. }
  | { op := .fieldAddr .., .. } | { op := .indexAddr .., .. } | { op := .field .., .. } | { op := .index .., .. } | { op := .extract .., .. } => false
  | { op := .call { callee := .value (.func f), .. }, .. } => (C.con.lookup f).isNone
  | { op := .call { callee := .builtin .min, .. }, .. } | { op := .call { callee := .builtin .max, .. }, .. } => false
  | _ => true

/-- All that stand ahead in the text come ahead, but such as leave memory alone. -/
def late (C : Ctx) (m : Nat) : List Oper → List Did → Nat → Bool
  | o :: os, d :: ds, j => (m.testBit j || (!reads C o && d.r.new.isEmpty && d.r.upd.isEmpty)) && late C m os ds (j + 1)
  | _, _, _ => true

mutual
/-- No block of a..b is named. -/
def SV.av (a b : Nat) : SV → Bool
  | .ptr i _ => decide (i < a) || decide (b ≤ i)
  | .slice i _ _ _ => decide (i < a) || decide (b ≤ i)
  | .etail i _ _ _ => decide (i < a) || decide (b ≤ i)
  | .sel i _ _ _ _ => decide (i < a) || decide (b ≤ i)
  | .map i => decide (i < a) || decide (b ≤ i)
  | .yield i => decide (i < a) || decide (b ≤ i)
  | .fn _ x y => SV.avL a b x && SV.avL a b y
  | .agg cs => SV.avL a b cs
  | .tuple cs => SV.avL a b cs
  | _ => true
def SV.avL (a b : Nat) : List SV → Bool
  | [] => true
  | v :: r => v.av a b && SV.avL a b r
end

def SO.av (a b : Nat) : SO → Bool
  | .cells cs _ => SV.avL a b cs
  | .grow cs _ _ => SV.avL a b cs
  | .map es _ => es.all fun p => p.1.av a b && p.2.av a b
  | .loop _ _ _ t _ _ _ => t.all fun x => match x with | some v => v.av a b | none => true
  | .bag => true
  | .look _ es => es.all fun p => p.1.av a b && p.2.av a b
  | .dead => true

def R.av (a b : Nat) (r : R) : Bool :=
  (match r.v with | some v => v.av a b | none => true) && (r.upd.all fun u => u.2.av a b) && (r.new.all fun o => o.av a b)

mutual
/-- All blocks are below 'n', all variables below 'm'. -/
def SV.okb (n m : Nat) : SV → Bool
  | .int _ e => e.under m
  | .bool e => e.under m
  | .ptr b _ => decide (b < n)
  | .slice b _ _ _ => decide (b < n)
  | .etail b _ _ _ => decide (b < n)
  | .sel b _ _ _ i => decide (b < n) && i.under m
  | .map r => decide (r < n)
  | .fn _ a c => SV.okbL n m a && SV.okbL n m c
  | .yield l => decide (l < n)
  | .agg cs => SV.okbL n m cs
  | .tuple cs => SV.okbL n m cs
  | _ => true
def SV.okbL (n m : Nat) : List SV → Bool
  | [] => true
  | v :: r => v.okb n m && SV.okbL n m r
end

def SO.okb (n m : Nat) : SO → Bool
  | .cells cs _ => SV.okbL n m cs
  | .grow cs _ _ => SV.okbL n m cs
  | .map es _ => es.all fun p => p.1.okb n m && p.2.okb n m
  | .loop _ _ _ t _ _ _ => t.all fun x => match x with | some v => v.okb n m | none => true
  | .bag => true
  | .look _ es => es.all fun p => p.1.okb n m && p.2.okb n m
  | .dead => true

def R.okb (n m : Nat) (r : R) : Bool :=
  (match r.v with | some v => v.okb n m | none => true) && (r.upd.all fun u => u.2.okb n m) && (r.new.all fun o => o.okb n m)

/-- What has been made by those that need not come ahead is not named. 'base': the first object's number. -/
def avoids (m : Nat) (r : R) : List Did → Nat → Nat → Bool
  | d :: ds, j, base => (m.testBit j || d.r.new.isEmpty || r.av base (base + d.r.new.length)) && avoids m r ds (j + 1) (base + d.r.new.length)
  | [], _, _ => true

/-- One that turns a block comes behind all that have to do with memory and stand ahead of it in the text. -/
def fits (C : Ctx) (nv ro m base : Nat) (ops : List Oper) (ds : List Did) (o : Oper) (h : List SO) (r : R) : Bool :=
  r.okb (h.length + r.new.length) nv && avoids m r ds 0 base &&
  (r.upd.isEmpty || (reads C o && late C m ops ds 0 && r.upd.all fun u => decide (ro ≤ u.1) && (match h[u.1]? with | some o => (match o with | .dead => false | _ => true) | none => false)))

/-- Which operations come ahead, as bits. -/
def ahead (ops : List Oper) : List Nat :=
  ops.foldl (fun acc o => acc ++ [o.after.toList.foldl (fun s e => if Region.binds .any e then s ||| 2 ^ e.on ||| (acc[e.on]?).getD 0 else s) 0]) []

def killAll (h : List SO) : List (Nat × SO) → List SO
  | [] => h
  | (i, _) :: r => killAll (h.set i .dead) r

def undefs (l : List (Option SV)) (d : Option Tmp) : List (Option SV) := match d with | some t => setR t none l | none => l

/-- What is known where operation i comes up: 'm': the bits of what is ahead of it. -/
def viewOf (mem : Bool) (m : Nat) : List (Option SV) → List SO → List Oper → List Did → Nat → List (Option SV) × List SO
  | tm, h, o :: os, d :: ds, j =>
    if m.testBit j = true then viewOf mem m (setTmp tm o.dst (if d.ran then d.r.v.getD undefS else undefS)) (d.r.heap h) os ds (j + 1)
    else
      let (tm', h') := viewOf mem m tm (h ++ d.r.new.map fun _ => .dead) os ds (j + 1)
      (undefs tm' o.dst, killAll h' d.r.upd)
  | tm, h, _, _, _ => (tm, if mem then h else h.map fun _ => .dead)

/-- What stands in a slot that is to be written may be read by operation i only where it comes ahead of the writing. -/
def hideT (i : Nat) : List (Option SV) → List Oper → List Nat → List (Option SV)
  | tm, o :: os, m :: ms => hideT i (if m.testBit i then tm else undefs tm o.dst) os ms
  | tm, _, _ => tm

/-- No two write the same slot; what comes ahead stands ahead. -/
def plainOps (ops : List Oper) (k : Nat) : Bool :=
  (ops.all fun o => match o.dst with | some t => decide (t < k) | none => true) && (ops.filterMap (·.dst)).Nodup && (ops.zipIdx.all fun p => p.1.after.toList.all fun e => !Region.binds .any e || decide (e.on < p.2))

/-- All that was done, in the text's order. -/
def allOf : List (Option SV) → List SO → List Oper → List Did → List (Option SV) × List SO
  | tm, h, o :: os, d :: ds => allOf (setTmp tm o.dst (if d.ran then d.r.v.getD undefS else undefS)) (d.r.heap h) os ds
  | tm, h, _, _ => (tm, h)

/-! ### A region that fills a map -/
def isIns : Oper → Bool
  | { op := .insert _ _ _ _, .. } => true
  | _ => false

def noIns (o : Oper) : Oper := if isIns o then { o with op := .move (.const (.bool true)) } else o

def isMake : Oper → Bool
  | { op := .makeMap _ none, dst := some _, .. } => true
  | _ => false

/-- The operation that writes a slot: ahead of all that read it. -/
def writer (ops : List Oper) (t : Tmp) : Option Nat := ops.findIdx? fun o => o.dst == some t

def slotVal (ops : List Oper) (m : Nat) (ds : List Did) (t : Tmp) : Option SV :=
  match writer ops t with
  | some j => if m.testBit j = true then (ds[j]?).map fun d => if d.ran then d.r.v.getD undefS else undefS else none
  | none => none

/-- What operation i puts into the map: key and value. -/
def insOf (P : Program) (N nv : Nat) (ks : List K) (ops : List Oper) (masks : List Nat) (ds : List Did) (i : Nat) : Option (SV × SV) :=
  match ops[i]?, (ops[0]?).bind (·.dst) with
  | some { op := .insert t (.tmp m) (.tmp k) (.tmp v), dst := none, guard := none, .. }, some t0 =>
    match P.underlying t, slotVal ops ((masks[i]?).getD 0) ds k, slotVal ops ((masks[i]?).getD 0) ds v with
    | some (.map kt _), some a, some b =>
      if m = t0 ∧ ((masks[i]?).getD 0).testBit 0 = true ∧ flatKey? P kt = some ks ∧ a.okb N nv = true ∧ b.okb N nv = true ∧ (litKey ks a).isSome = true then some (a, b) else none
    | _, _, _ => none
  | _, _ => none

/-- All that are put in, in the text's order. -/
def bagOf (P : Program) (N nv : Nat) (ks : List K) (ops : List Oper) (masks : List Nat) (ds : List Did) : List Nat → Option (List (SV × SV))
  | [] => some []
  | i :: r =>
    match ops[i]? with
    | some o =>
      if isIns o then
        match insOf P N nv ks ops masks ds i, bagOf P N nv ks ops masks ds r with
        | some e, some l => some (e :: l)
        | _, _ => none
      else bagOf P N nv ks ops masks ds r
    | none => none

/-- The keys' kinds. -/
def bagKs (P : Program) (ops : List Oper) : Option (List K) :=
  match ops.find? isIns with
  | some { op := .insert t _ _ _, .. } => match P.underlying t with
    | some (.map kt _) => flatKey? P kt
    | _ => none
  | _ => none

def bagPlain (C : Ctx) : List Oper → Bool
  | o :: os => isMake o && o.guard.isNone && os.all fun o => !isMake o && o.guard.isNone && !isCall o && !reads C (noIns o)
  | [] => false

/-- The blocks that a call has turned. -/
def turned (nv : Nat) : List SO → List SO → Nat → List (Nat × SO)
  | o :: h, o' :: h', i => if sameSO nv [] o o' then turned nv h h' (i + 1) else (i, o') :: turned nv h h' (i + 1)
  | _, _, _ => []

def resultsS (P : Program) : List ResultVar → St → List SO → Option (List SV)
  | [], _, _ => some []
  | .tmp t :: r, st, h => match st.eval (.tmp t), resultsS P r st h with
    | some v, some l => some (v :: l)
    | _, _ => none
  | .cell a t :: r, st, h => match (st.eval (.tmp a)).bind ptr?, resultsS P r st h with
    | some (b, off), some l => (load? P h t b off).map (· :: l)
    | _, _ => none

mutual
def exec (C : Ctx) : Nat → Nat → Nat → Option Nat → Code → St → T (X × St)
  | 0, _, _, _, _, _ => .fail "fuel"
  | n + 1, ro, cur, rd, c, st =>
    match c with
    | .skip => .leaf (.norm, st)
    | .label _ => .leaf (.norm, st)
    | .seq a b => (exec C n ro cur rd a st).bind fun (x, st) => match x with
      | .norm => exec C n ro cur rd b st
      | x => .leaf (x, st)
    | .cond (.tmp t) a b => match atR st.tmps t with
      | some (some (.bool e)) => branchAt e t st.tmps (fun l => exec C n ro cur rd a { st with tmps := l }) (fun l => exec C n ro cur rd b { st with tmps := l })
      | _ => .fail "cond"
    | .cond c a b => match st.eval c with
      | some (.bool e) => branch e (exec C n ro cur rd a st) (exec C n ro cur rd b st)
      | _ => .fail "cond"
    | .block id (.loop b) =>
      match C.loops.find? (fun a => a.cur == cur && a.block == id && a.size == st.heap.length) with
      | some a => match a.places.mapM (fun p => readPlace st p), absSt a st with
        | some init, some H =>
          if st.nv ≤ a.base ∧ sameSt a.base init H st then
            .loop a.base init a.base ((exec C n ro cur rd b H).bind fun (x, st') => match x with
              | .norm => match a.places.mapM (fun p => readPlace st' p) with
                | some es => if sameSt a.base es H { st' with heap := st'.heap.take H.heap.length } then .again a.base es else .fail "again"
                | none => .fail "again: places"
              | .exit i => if i = id then .leaf (.norm, st') else .leaf (.exit i, st')
              | x => .leaf (x, st'))
          else .fail "loop"
        | _, _ => .fail "loop: places"
      | none => (exec C n ro cur rd (.loop b) st).bind fun (x, st) => match x with
        | .exit i => if i = id then .leaf (.norm, st) else .leaf (.exit i, st)
        | x => .leaf (x, st)
    | .block id b => (exec C n ro cur rd b st).bind fun (x, st) => match x with
      | .exit i => if i = id then .leaf (.norm, st) else .leaf (.exit i, st)
      | x => .leaf (x, st)
    | .loop b => (exec C n ro cur rd b st).bind fun (x, st) => match x with
      | .norm => exec C n ro cur rd (.loop b) st
      | x => .leaf (x, st)
    | .exit id => .leaf (.exit id, st)
    | .goto l => .leaf (.goto l, st)
    | .ret => .leaf (.ret, st)
    | .region _ ops false => (execOps C n ro rd ops.toList ops.toList st).bind fun st => .leaf (.norm, st)
    | .region _ ops true =>
      if ops.toList.any isIns = true then
        let ops' := ops.toList.map noIns
        if plainOps ops' st.tmps.length = true ∧ bagPlain C ops.toList = true then
          (execDraw { C with bag := true } n ro ops' (ahead ops') st [] ops').bind fun ds =>
            let (tm, h) := allOf st.tmps st.heap ops' ds
            match bagKs C.P ops.toList with
            | some ks =>
              match bagOf C.P st.heap.length st.nv ks ops.toList (ahead ops') ds (List.range ops.size) with
              | some es =>
                match litKeys ks es with
                | some keys => if keys.Nodup then .leaf (.norm, { st with tmps := tm, heap := h.set st.heap.length (.look ks es) }) else .fail "map: keys"
                | none => .fail "map: keys"
              | none => .fail "map: entries"
            | none => .fail "map: kinds"
        else .fail "map: operations"
      else
        if plainOps ops.toList st.tmps.length = true then
          (execDraw C n ro ops.toList (ahead ops.toList) st [] ops.toList).bind fun ds =>
            let (tm, h) := allOf st.tmps st.heap ops.toList ds
            .leaf (.norm, { st with tmps := tm, heap := h })
        else .fail "order: the operations"
    | .rangeFunc f ps asg body =>
      match st.eval f with
      | some (.fn g first cap) =>
        if rd.isSome then .fail "nested" else
        let l := st.heap.length
        let h := st.heap ++ [.loop .ready none cur st.tmps ps.toList asg body]
        (call C n ro g (first ++ [.yield l] ++ cap) h st.nv).bind fun (_, h, nv) =>
          match h[l]? with
          | some (.loop s pend fn' tms' ps' a' b') =>
            if s = .busy then .fail "busy" else
            let st' : St := { tmps := st.tmps, heap := h.set l (.loop .exhausted pend fn' tms' ps' a' b'), nv }
            match pend with
            | none => .leaf (.norm, st')
            | some .ret => .leaf (.ret, st')
            | some (.exit i) => .leaf (.exit i, st')
            | some (.goto i) => .leaf (.goto i, st')
            | _ => .fail "pending"
          | _ => .fail "loop"
      | _ => .fail "rangeFunc"
    | .scope _ => .fail "scope"
    | .refuse _ => .fail "refuse"
/-- The operations of a region, in order. -/
def execOps (C : Ctx) : Nat → Nat → Option Nat → List Oper → List Oper → St → T St
  | 0, _, _, _, _, _ => .fail "fuel"
  | _ + 1, _, _, _, [], st => .leaf st
  | n + 1, ro, rd, ops, o :: os, st =>
    wanted ops st.tmps o
      (fun tm =>
        let st := { st with tmps := tm }
        if isCall o then
        match callee? st o with
        | some (f, args) => (callV C n ro f args st.heap st.nv).bind fun (v, h, nv) => execOps C n ro rd ops os { st with tmps := setTmp st.tmps o.dst v, heap := h, nv }
        | none => .fail "callee"
      else (sop C ro st o).bind fun r => execOps C n ro rd ops os { st with tmps := setTmp st.tmps o.dst (r.v.getD undefS), heap := r.heap st.heap })
      (fun tm => execOps C n ro rd ops os { st with tmps := setTmp tm o.dst undefS })
def execDraw (C : Ctx) : Nat → Nat → List Oper → List Nat → St → List Did → List Oper → T (List Did)
  | 0, _, _, _, _, _, _ => .fail "fuel"
  | _ + 1, _, _, _, _, ds, [] => .leaf ds
  | n + 1, ro, ops, masks, st, ds, o :: os =>
    match wantedDid ops ((masks[ds.length]?).getD 0) ds o with
    | none => .fail "guard"
    | some false => execDraw C n ro ops masks st (ds ++ [⟨false, ⟨none, [], []⟩⟩]) os
    | some true =>
      let (tm, h) := viewOf (reads C o) ((masks[ds.length]?).getD 0) (hideT ds.length st.tmps os (masks.drop (ds.length + 1))) st.heap ops ds 0
      let vw : St := { st with tmps := tm, heap := h }
      let fin := fun (r : R) =>
        if fits C st.nv ro ((masks[ds.length]?).getD 0) st.heap.length ops ds o h r = true then settle ops ds.length r fun r => execDraw C n ro ops masks st (ds ++ [⟨true, r⟩]) os
        else .fail "order"
      if isCall o then
        match callee? vw o with
        | some (f, args) =>
          (callV { C with loops := [] } n ro f args h st.nv).bind fun (v, h', nv) =>
            if nv = st.nv then fin ⟨some v, turned nv h h' 0, h'.drop h.length⟩ else .fail "variables"
        | none => .fail "callee"
      else (sop C ro vw o).bind fin
/-- A call of a function value. -/
def callV (C : Ctx) : Nat → Nat → SV → List SV → List SO → Nat → T (SV × List SO × Nat)
  | 0, _, _, _, _, _ => .fail "fuel"
  | n + 1, ro, f, args, h, nv =>
    match f with
    | .fn g first cap =>
      if C.add64 = some g then
        match first, args, cap with
        | [], [.int .u64 x, .int .u64 y, .int .u64 c], [] =>
          match x.num .u64, y.num .u64, c.num .u64 with
          | some x, some y, some c => if c ≤ 1 then .leaf (.tuple [.int .u64 (.lit (.int .u64) ((x + y + c) % 18446744073709551616)), .int .u64 (.lit (.int .u64) ((x + y + c) / 18446744073709551616))], h, nv) else .fail "Add64"
          | _, _, _ => .fail "Add64"
        | _, _, _ => .fail "Add64"
      else call C n ro g (first ++ args ++ cap) h nv
    | .yield l =>
      match h[l]? with
      | some (.loop .ready none fn tms ps asg body) =>
        if l < ro ∨ ps.length ≠ args.length then .fail "yield" else
        let tm := (ps.zip args).foldl (fun t (i, v) => t.set i (some v)) tms
        (exec C n ro fn (some l) asg { tmps := tm, heap := h, nv }).bind fun (x, st) => match x with
          | .norm =>
            (match st.heap[l]? with
            | some (.loop .ready none fn' tms' ps' asg' body') => (exec C n ro fn (some l) body { st with heap := st.heap.set l (.loop .busy none fn' tms' ps' asg' body') }).bind fun (x, st) =>
              match st.heap[l]? with
              | some (.loop .busy none fn' tms' ps' asg' body') => match x with
                | .norm => .leaf (.bool (.lit .bool 1), st.heap.set l (.loop .ready none fn' tms' ps' asg' body'), st.nv)
                | .ret => .leaf (.bool (.lit .bool 0), st.heap.set l (.loop .done (some .ret) fn' tms' ps' asg' body'), st.nv)
                | .exit i => .leaf (.bool (.lit .bool 0), st.heap.set l (.loop .done (some (.exit i)) fn' tms' ps' asg' body'), st.nv)
                | .goto i => .leaf (.bool (.lit .bool 0), st.heap.set l (.loop .done (some (.goto i)) fn' tms' ps' asg' body'), st.nv)
              | _ => .fail "round"
            | _ => .fail "round")
          | _ => .fail "assign"
      | _ => .fail "yield"
    | _ => .fail "function value"
/-- A call of a function. -/
def call (C : Ctx) : Nat → Nat → Nat → List SV → List SO → Nat → T (SV × List SO × Nat)
  | 0, _, _, _, _, _ => .fail "fuel"
  | n + 1, ro, f, args, h, nv =>
    match C.con.lookup f with
    | some c => (byCon C c args).bind fun v => .leaf (v, h, nv)
    | none =>
      match atR C.P.funcs.toList f with
      | none => .fail "function"
      | some fn => match fn.body with
        | none => .fail "no body"
        | some c =>
          (exec C n ro f none c { tmps := (args ++ List.replicate (fn.ntmps - args.length) undefS).map some, heap := h, nv }).bind fun (x, st) => match x with
            | .norm | .ret =>
              match resultsS C.P fn.results.toList st st.heap with
              | some vs => .leaf (tupled vs, st.heap, st.nv)
              | none => .fail "results"
            | _ => .fail "exit"
end

end
end Go.Sx

/- What the symbolic run's values, objects and trees stand for. -/
namespace Go.Sx
open Go.RowKit

/-- How numbers stand for themselves: 'Φ' the specs, 'ρ' the variables, 'ε' the blocks, 'κ' how many elements a block that grows may hold. -/
structure En where
  Φ : Spec
  ρ : Nat → Int
  ε : Nat → Nat
  κ : Nat → Nat

mutual
def SV.re (n : En) : SV → Value
  | .int k e => .int k (k.wrap (e.den n.Φ n.ρ))
  | .bool e => .bool (e.den n.Φ n.ρ != 0)
  | .ptr b o => .pointer (some ⟨n.ε b, o, none⟩)
  | .nilptr => .pointer none
  | .slice b o l c => .slice (some ⟨n.ε b, o, none⟩) l (match c with | .kn c => c | .un j => n.κ b - j)
  | .nilslice => .slice none 0 0
  | .etail b o d j => .slice (some ⟨n.ε b, if n.κ b = j then o else o + d, none⟩) 0 (n.κ b - j)
  | .sel b o sz _ i => .pointer (some ⟨n.ε b, o + (IntKind.i64.wrap (i.den n.Φ n.ρ)).toNat * sz, none⟩)
  | .map r => .map (some (n.ε r))
  | .nilmap => .map none
  | .fn f a c => .func (.func f) (SV.reL n a).toArray (SV.reL n c).toArray
  | .yield l => .func (.yield (n.ε l)) #[] #[]
  | .nilfn => .nilFunc
  | .agg cs => .agg (SV.reL n cs).toArray
  | .tuple cs => .tuple (SV.reL n cs).toArray
def SV.reL (n : En) : List SV → List Value
  | [] => []
  | v :: r => v.re n :: SV.reL n r
end

theorem SV.reL_eq (n : En) : ∀ l : List SV, SV.reL n l = l.map (·.re n)
  | [] => rfl
  | v :: r => by rw [SV.reL, SV.reL_eq n r]; rfl

mutual
/-- All blocks are below 'n', all variables below 'm'. -/
def SV.Ok (n m : Nat) : SV → Prop
  | .int _ e => e.under m = true
  | .bool e => e.under m = true
  | .ptr b _ => b < n
  | .slice b _ _ _ => b < n
  | .etail b _ _ _ => b < n
  | .sel b _ _ _ i => b < n ∧ i.under m = true
  | .map r => r < n
  | .fn _ a c => SV.OkL n m a ∧ SV.OkL n m c
  | .yield l => l < n
  | .agg cs => SV.OkL n m cs
  | .tuple cs => SV.OkL n m cs
  | _ => True
def SV.OkL (n m : Nat) : List SV → Prop
  | [] => True
  | v :: r => v.Ok n m ∧ SV.OkL n m r
end

theorem SV.OkL_iff {n m : Nat} : ∀ {l : List SV}, SV.OkL n m l ↔ ∀ v ∈ l, v.Ok n m
  | [] => by simp [SV.OkL]
  | v :: r => by simp [SV.OkL, SV.OkL_iff (l := r)]

/-! ### Expressions: what hangs on which variables -/
mutual
theorem E.den_congr {Φ : Spec} {ρ ρ' : Nat → Int} {m : Nat} (h : ∀ i, i < m → ρ i = ρ' i) : ∀ e : E, e.under m = true → e.den Φ ρ = e.den Φ ρ'
  | .var k i, hu => by simp only [E.under, decide_eq_true_eq] at hu; simp [E.den, h i hu]
  | .lit k n, _ => rfl
  | .bin op k k2 a b, hu => by
    simp only [E.under, Bool.and_eq_true] at hu
    simp only [E.den]; rw [E.den_congr h a hu.1, E.den_congr h b hu.2]
  | .conv k k1 a, hu => by simp only [E.under] at hu; simp only [E.den]; rw [E.den_congr h a hu]
  | .cmp op k a b, hu => by
    simp only [E.under, Bool.and_eq_true] at hu
    simp only [E.den]; rw [E.den_congr h a hu.1, E.den_congr h b hu.2]
  | .not a, hu => by simp only [E.under] at hu; simp only [E.den]; rw [E.den_congr h a hu]
  | .ite k c a b, hu => by
    simp only [E.under, Bool.and_eq_true] at hu
    simp only [E.den]; rw [E.den_congr h c hu.1.1, E.den_congr h a hu.1.2, E.den_congr h b hu.2]
  | .app k s args i, hu => by simp only [E.under] at hu; simp only [E.den]; rw [E.denL_congr h args hu]
theorem E.denL_congr {Φ : Spec} {ρ ρ' : Nat → Int} {m : Nat} (h : ∀ i, i < m → ρ i = ρ' i) : ∀ l : List (K × E), E.underL m l = true → E.denL Φ ρ l = E.denL Φ ρ' l
  | [], _ => rfl
  | (k, a) :: r, hu => by
    simp only [E.underL, Bool.and_eq_true] at hu
    simp only [E.denL]; rw [E.den_congr h a hu.1, E.denL_congr h r hu.2]
end

mutual
theorem E.under_mono {m m' : Nat} (h : m ≤ m') : ∀ e : E, e.under m = true → e.under m' = true
  | .var k i, hu => by simp only [E.under, decide_eq_true_eq] at *; omega
  | .lit k n, _ => rfl
  | .bin op k k2 a b, hu => by
    simp only [E.under, Bool.and_eq_true] at *
    exact ⟨E.under_mono h a hu.1, E.under_mono h b hu.2⟩
  | .conv k k1 a, hu => by simp only [E.under] at *; exact E.under_mono h a hu
  | .cmp op k a b, hu => by
    simp only [E.under, Bool.and_eq_true] at *
    exact ⟨E.under_mono h a hu.1, E.under_mono h b hu.2⟩
  | .not a, hu => by simp only [E.under] at *; exact E.under_mono h a hu
  | .ite k c a b, hu => by
    simp only [E.under, Bool.and_eq_true] at *
    exact ⟨⟨E.under_mono h c hu.1.1, E.under_mono h a hu.1.2⟩, E.under_mono h b hu.2⟩
  | .app k s args i, hu => by simp only [E.under] at *; exact E.underL_mono h args hu
theorem E.underL_mono {m m' : Nat} (h : m ≤ m') : ∀ l : List (K × E), E.underL m l = true → E.underL m' l = true
  | [], _ => rfl
  | (k, a) :: r, hu => by
    simp only [E.underL, Bool.and_eq_true] at *
    exact ⟨E.under_mono h a hu.1, E.underL_mono h r hu.2⟩
end

/-- What agrees as far as a value looks. -/
structure En.Agree (n m : Nat) (e e' : En) : Prop where
  Φ : e.Φ = e'.Φ
  ρ : ∀ i, i < m → e.ρ i = e'.ρ i
  ε : ∀ i, i < n → e.ε i = e'.ε i
  κ : ∀ i, i < n → e.κ i = e'.κ i

theorem En.Agree.refl (n m : Nat) (e : En) : En.Agree n m e e := ⟨rfl, fun _ _ => rfl, fun _ _ => rfl, fun _ _ => rfl⟩
theorem En.Agree.trans {n m : Nat} {a b c : En} (h : En.Agree n m a b) (k : En.Agree n m b c) : En.Agree n m a c :=
  ⟨h.Φ.trans k.Φ, fun i hi => (h.ρ i hi).trans (k.ρ i hi), fun i hi => (h.ε i hi).trans (k.ε i hi), fun i hi => (h.κ i hi).trans (k.κ i hi)⟩
theorem En.Agree.mono {n m n' m' : Nat} {a b : En} (h : En.Agree n m a b) (hn : n' ≤ n) (hm : m' ≤ m) : En.Agree n' m' a b :=
  ⟨h.Φ, fun i hi => h.ρ i (by omega), fun i hi => h.ε i (by omega), fun i hi => h.κ i (by omega)⟩

theorem E.den_agree {n m : Nat} {e e' : En} (h : En.Agree n m e e') (x : E) (hx : x.under m = true) : x.den e.Φ e.ρ = x.den e'.Φ e'.ρ := by
  rw [h.Φ]; exact E.den_congr h.ρ x hx

mutual
theorem SV.re_agree {n m : Nat} {e e' : En} (h : En.Agree n m e e') : ∀ v : SV, v.Ok n m → v.re e = v.re e'
  | .int k x, hv => by simp only [SV.Ok] at hv; simp only [SV.re]; rw [E.den_agree h x hv]
  | .bool x, hv => by simp only [SV.Ok] at hv; simp only [SV.re]; rw [E.den_agree h x hv]
  | .ptr b o, hv => by simp only [SV.Ok] at hv; simp only [SV.re]; rw [h.ε b hv]
  | .nilptr, _ => rfl
  | .slice b o l c, hv => by simp only [SV.Ok] at hv; simp only [SV.re]; rw [h.ε b hv, h.κ b hv]
  | .nilslice, _ => rfl
  | .etail b o d j, hv => by simp only [SV.Ok] at hv; simp only [SV.re]; rw [h.ε b hv, h.κ b hv]
  | .sel b o sz c i, hv => by simp only [SV.Ok] at hv; simp only [SV.re]; rw [h.ε b hv.1, E.den_agree h i hv.2]
  | .map r, hv => by simp only [SV.Ok] at hv; simp only [SV.re]; rw [h.ε r hv]
  | .nilmap, _ => rfl
  | .fn f a c, hv => by simp only [SV.Ok] at hv; simp only [SV.re]; rw [SV.reL_agree h a hv.1, SV.reL_agree h c hv.2]
  | .yield l, hv => by simp only [SV.Ok] at hv; simp only [SV.re]; rw [h.ε l hv]
  | .nilfn, _ => rfl
  | .agg cs, hv => by simp only [SV.Ok] at hv; simp only [SV.re]; rw [SV.reL_agree h cs hv]
  | .tuple cs, hv => by simp only [SV.Ok] at hv; simp only [SV.re]; rw [SV.reL_agree h cs hv]
theorem SV.reL_agree {n m : Nat} {e e' : En} (h : En.Agree n m e e') : ∀ l : List SV, SV.OkL n m l → SV.reL e l = SV.reL e' l
  | [], _ => rfl
  | v :: r, hv => by simp only [SV.OkL] at hv; simp only [SV.reL]; rw [SV.re_agree h v hv.1, SV.reL_agree h r hv.2]
end

mutual
theorem SV.Ok_mono {n m n' m' : Nat} (hn : n ≤ n') (hm : m ≤ m') : ∀ v : SV, v.Ok n m → v.Ok n' m'
  | .int k x, hv => by simp only [SV.Ok] at *; exact E.under_mono hm x hv
  | .bool x, hv => by simp only [SV.Ok] at *; exact E.under_mono hm x hv
  | .ptr b o, hv => by simp only [SV.Ok] at *; omega
  | .nilptr, _ => trivial
  | .slice b o l c, hv => by simp only [SV.Ok] at *; omega
  | .nilslice, _ => trivial
  | .etail b o d j, hv => by simp only [SV.Ok] at *; omega
  | .sel b o sz c i, hv => by simp only [SV.Ok] at *; exact ⟨by omega, E.under_mono hm i hv.2⟩
  | .map r, hv => by simp only [SV.Ok] at *; omega
  | .nilmap, _ => trivial
  | .fn f a c, hv => by simp only [SV.Ok] at *; exact ⟨SV.OkL_mono hn hm a hv.1, SV.OkL_mono hn hm c hv.2⟩
  | .yield l, hv => by simp only [SV.Ok] at *; omega
  | .nilfn, _ => trivial
  | .agg cs, hv => by simp only [SV.Ok] at *; exact SV.OkL_mono hn hm cs hv
  | .tuple cs, hv => by simp only [SV.Ok] at *; exact SV.OkL_mono hn hm cs hv
theorem SV.OkL_mono {n m n' m' : Nat} (hn : n ≤ n') (hm : m ≤ m') : ∀ l : List SV, SV.OkL n m l → SV.OkL n' m' l
  | [], _ => trivial
  | v :: r, hv => by simp only [SV.OkL] at *; exact ⟨SV.Ok_mono hn hm v hv.1, SV.OkL_mono hn hm r hv.2⟩
end

/-! ### Expressions that are made: what they come to -/
theorem norm_int (k : IntKind) (n : Int) : (K.int k).norm n = k.wrap n := rfl

theorem E.den_lit (Φ : Spec) (ρ : Nat → Int) (k : K) (n : Int) : (E.lit k n).den Φ ρ = k.norm n := by simp [E.den]

def lo : IntKind → Int
  | .i8 => -128 | .i16 => -32768 | .i32 => -2147483648 | .i64 => -9223372036854775808 | _ => 0
def hi : IntKind → Int
  | .i8 => 127 | .i16 => 32767 | .i32 => 2147483647 | .i64 => 9223372036854775807
  | .u8 => 255 | .u16 => 65535 | .u32 => 4294967295 | .u64 => 18446744073709551615

theorem wrap_signed (b : Nat) (n : Int) (k : IntKind) (hs : k.signed = true) (hb : k.bits = b + 1) : k.wrap n = if n % (2 ^ (b + 1) : Int) ≥ 2 ^ b then n % (2 ^ (b + 1) : Int) - 2 ^ (b + 1) else n % (2 ^ (b + 1) : Int) := by
  unfold IntKind.wrap; rw [hs, hb]; simp
theorem wrap_unsigned (n : Int) (k : IntKind) (hs : k.signed = false) : k.wrap n = n % (2 ^ k.bits : Int) := by
  unfold IntKind.wrap; rw [hs]; simp
theorem wrap_range (k : IntKind) (n : Int) : lo k ≤ k.wrap n ∧ k.wrap n ≤ hi k := by
  cases k
  case i8 => rw [wrap_signed 7 n _ rfl rfl]; simp only [lo, hi]; split <;> omega
  case i16 => rw [wrap_signed 15 n _ rfl rfl]; simp only [lo, hi]; split <;> omega
  case i32 => rw [wrap_signed 31 n _ rfl rfl]; simp only [lo, hi]; split <;> omega
  case i64 => rw [wrap_signed 63 n _ rfl rfl]; simp only [lo, hi]; split <;> omega
  all_goals rw [wrap_unsigned n _ rfl]; simp only [lo, hi, IntKind.bits]; omega
theorem wrap_id {k : IntKind} {n : Int} (h : lo k ≤ n ∧ n ≤ hi k) : k.wrap n = n := by
  cases k
  case i8 => rw [wrap_signed 7 n _ rfl rfl]; simp only [lo, hi] at h; split <;> omega
  case i16 => rw [wrap_signed 15 n _ rfl rfl]; simp only [lo, hi] at h; split <;> omega
  case i32 => rw [wrap_signed 31 n _ rfl rfl]; simp only [lo, hi] at h; split <;> omega
  case i64 => rw [wrap_signed 63 n _ rfl rfl]; simp only [lo, hi] at h; split <;> omega
  all_goals rw [wrap_unsigned n _ rfl]; simp only [lo, hi, IntKind.bits] at *; omega

theorem wrap_wrap (k : IntKind) (n : Int) : k.wrap (k.wrap n) = k.wrap n := wrap_id (wrap_range k n)

theorem norm_norm (k : K) (n : Int) : k.norm (k.norm n) = k.norm n := by
  cases k with
  | bool => simp only [K.norm]; split <;> simp
  | int k => exact wrap_wrap k n

theorem norm_b2i (b : Bool) : K.bool.norm (b2i b) = b2i b := by cases b <;> rfl
theorem b2i_ne (b : Bool) : (b2i b != 0) = b := by cases b <;> rfl

theorem mkCmp_den (Φ : Spec) (ρ : Nat → Int) (op : BinOp) (k : K) (a b : E) : (mkCmp op k a b).den Φ ρ = (E.cmp op k a b).den Φ ρ := by
  unfold mkCmp
  split
  · simp only [E.den, norm_b2i]
  · rfl

theorem emod_le {a b : Int} (h : 0 ≤ a) : a % b ≤ a := by
  obtain ⟨x, rfl⟩ := Int.eq_ofNat_of_zero_le h
  rcases Int.natAbs_eq b with e | e <;> rw [e]
  · have := Nat.mod_le x b.natAbs; omega
  · rw [Int.emod_neg]; have := Nat.mod_le x b.natAbs; omega

theorem tmod_range {k : IntKind} {a b : Int} (ha : lo k ≤ a ∧ a ≤ hi k) : lo k ≤ a.tmod b ∧ a.tmod b ≤ hi k := by
  have h0 : lo k ≤ 0 := by cases k <;> decide
  have h1 : 0 ≤ hi k := by cases k <;> decide
  by_cases h : 0 ≤ a
  · have h2 := Int.tmod_nonneg b h
    have h3 : a.tmod b ≤ a := by
      rw [Int.tmod_eq_emod_of_nonneg h]
      exact emod_le h
    omega
  · have h' := (show 0 ≤ -a by omega)
    have h2 := Int.tmod_nonneg b h'
    have h4 : (-a).tmod b ≤ -a := by
      rw [Int.tmod_eq_emod_of_nonneg h']
      exact emod_le h'
    have h3 : a.tmod b = -((-a).tmod b) := by rw [Int.neg_tmod, Int.neg_neg]
    omega

theorem fdiv_range {k : IntKind} {a : Int} {j : Nat} (ha : lo k ≤ a ∧ a ≤ hi k) : lo k ≤ a.fdiv (2 ^ j) ∧ a.fdiv (2 ^ j) ≤ hi k := by
  have h0 : lo k ≤ 0 := by cases k <;> decide
  have h1 : 0 ≤ hi k := by cases k <;> decide
  have hp : (0 : Int) < 2 ^ j := Int.pow_pos (by decide)
  rw [Int.fdiv_eq_ediv_of_nonneg _ (Int.le_of_lt hp)]
  have h2 := Int.ediv_mul_le a (Int.ne_of_gt hp)
  have h3 := Int.lt_ediv_add_one_mul_self a hp
  rcases Int.le_total 0 a with h | h
  · have := Int.ediv_nonneg h (Int.le_of_lt hp)
    have := Int.ediv_le_self (2 ^ j) h
    omega
  · have h5 : a / 2 ^ j ≤ 0 := by
      by_cases h6 : 0 < a / 2 ^ j
      · have h7 : 1 * (2 : Int) ^ j ≤ a / 2 ^ j * 2 ^ j := Int.mul_le_mul_of_nonneg_right (by omega) (Int.le_of_lt hp)
        omega
      · omega
    have h6 : a ≤ a / 2 ^ j := by
      rw [Int.le_ediv_iff_mul_le hp]
      have h8 : (-a) * 1 ≤ (-a) * 2 ^ j := Int.mul_le_mul_of_nonneg_left (by omega) (by omega)
      rw [Int.neg_mul, Int.neg_mul] at h8
      omega
    omega

theorem bop_range {op : BinOp} {k : IntKind} {a b : Int} (ha : lo k ≤ a ∧ a ≤ hi k) : lo k ≤ bop op k a b ∧ bop op k a b ≤ hi k := by
  have h0 : lo k ≤ 0 ∧ 0 ≤ hi k := by cases k <;> decide
  cases op <;> simp only [bop] <;> first | exact wrap_range _ _ | exact tmod_range ha | exact fdiv_range ha | exact h0

/-- What an expression of a binary operation comes to is of its kind. -/
theorem wrap_bop (op : BinOp) (k : IntKind) (a b : Int) : k.wrap (bop op k (k.wrap a) b) = bop op k (k.wrap a) b :=
  wrap_id (bop_range (wrap_range k a))

theorem mkBin_den (Φ : Spec) (ρ : Nat → Int) (op : BinOp) (k k2 : IntKind) (a b : E) : k.wrap ((mkBin op k k2 a b).den Φ ρ) = k.wrap ((E.bin op k k2 a b).den Φ ρ) := by
  unfold mkBin
  split
  · simp only [E.den, K.norm, wrap_wrap]
  · rfl

theorem den_bin (Φ : Spec) (ρ : Nat → Int) (op : BinOp) (k k2 : IntKind) (a b : E) : k.wrap ((E.bin op k k2 a b).den Φ ρ) = bop op k (k.wrap (a.den Φ ρ)) (k2.wrap (b.den Φ ρ)) := by
  simp only [E.den, wrap_bop]

theorem mkConv_den (Φ : Spec) (ρ : Nat → Int) (k k1 : IntKind) (a : E) : k.wrap ((mkConv k k1 a).den Φ ρ) = k.wrap (k1.wrap (a.den Φ ρ)) := by
  unfold mkConv
  split
  · simp only [E.den, K.norm, wrap_wrap]
  · simp only [E.den, wrap_wrap]

theorem mkNot_den (Φ : Spec) (ρ : Nat → Int) (a : E) : ((mkNot a).den Φ ρ != 0) = !(a.den Φ ρ != 0) := by
  unfold mkNot
  split
  · simp only [E.den, norm_b2i, b2i_ne]; simp [bne]
  · simp only [E.den, b2i_ne]; simp [bne]

theorem mkIte_den (Φ : Spec) (ρ : Nat → Int) (k : K) (c a b : E) : k.norm ((mkIte k c a b).den Φ ρ) = if c.den Φ ρ = 0 then k.norm (b.den Φ ρ) else k.norm (a.den Φ ρ) := by
  unfold mkIte
  split
  · rename_i kc x; by_cases h : kc.norm x = 0 <;> simp [E.den, h]
  · simp only [E.den]; split <;> simp [norm_norm]

theorem norm_bool_ne (n : Int) : (K.bool.norm n != 0) = (n != 0) := by
  simp only [K.norm]; split
  · rename_i h; simp [h]
  · rename_i h; simp [h]

theorem mkIte_bool (Φ : Spec) (ρ : Nat → Int) (c a b : E) : ((mkIte .bool c a b).den Φ ρ != 0) = if c.den Φ ρ = 0 then (b.den Φ ρ != 0) else (a.den Φ ρ != 0) := by
  rw [← norm_bool_ne, mkIte_den]; split <;> rw [norm_bool_ne]

theorem mkAnd_den (Φ : Spec) (ρ : Nat → Int) (a b : E) : ((mkAnd a b).den Φ ρ != 0) = ((a.den Φ ρ != 0) && (b.den Φ ρ != 0)) := by
  unfold mkAnd; rw [mkIte_bool]
  by_cases h : a.den Φ ρ = 0
  · simp [h, E.den, K.norm]
  · simp [h, bne]

theorem mkCmp_bool (Φ : Spec) (ρ : Nat → Int) (op : BinOp) (k : K) (a b : E) : ((mkCmp op k a b).den Φ ρ != 0) = bcmp op (k.norm (a.den Φ ρ)) (k.norm (b.den Φ ρ)) := by
  rw [mkCmp_den]; simp only [E.den, b2i_ne]

/-! Variables of what is made. -/
section under
variable {m : Nat}
theorem mkBin_under {op : BinOp} {k k2 : IntKind} {a b : E} (ha : a.under m = true) (hb : b.under m = true) : (mkBin op k k2 a b).under m = true := by
  unfold mkBin; split <;> simp_all [E.under]
theorem mkCmp_under {op : BinOp} {k : K} {a b : E} (ha : a.under m = true) (hb : b.under m = true) : (mkCmp op k a b).under m = true := by
  unfold mkCmp; split <;> simp_all [E.under]
theorem mkConv_under {k k1 : IntKind} {a : E} (ha : a.under m = true) : (mkConv k k1 a).under m = true := by
  unfold mkConv; split <;> simp_all [E.under]
theorem mkNot_under {a : E} (ha : a.under m = true) : (mkNot a).under m = true := by
  unfold mkNot; split <;> simp_all [E.under]
theorem mkIte_under {k : K} {c a b : E} (hc : c.under m = true) (ha : a.under m = true) (hb : b.under m = true) : (mkIte k c a b).under m = true := by
  unfold mkIte; split
  · split <;> assumption
  · simp_all [E.under]
theorem mkAnd_under {a b : E} (ha : a.under m = true) (hb : b.under m = true) : (mkAnd a b).under m = true := mkIte_under ha hb rfl
end under

end Go.Sx

namespace Go.Sx
open Go.RowKit

def TR (n : En) (N m : Nat) (tmps : List (Option SV)) (a : Array Value) : Prop :=
  a.size = tmps.length ∧ ∀ (i : Nat) (v : SV), tmps[i]? = some (some v) → v.Ok N m ∧ a[i]? = some (v.re n)

def SO.alive : SO → Bool
  | .dead => false
  | _ => true

/-- What an object stands for; 'k': how many elements it may hold, if it is one that grows. -/
def OR (n : En) (N m k : Nat) : SO → Option Obj → Prop
  | .cells cs e, o => SV.OkL N m cs ∧ o = some (.cells (SV.reL n cs).toArray e (0, 0))
  | .grow cs e sz, o => SV.OkL N m cs ∧ ∃ rest : List Value, o = some (.cells (SV.reL n cs ++ rest).toArray e (0, 0)) ∧ cs.length + rest.length = k * sz
  | .map es _, o => (∀ p ∈ es, p.1.Ok N m ∧ p.2.Ok N m) ∧ ∃ (ents : Array MapEntry) (cl : Nat), o = some (.map ents cl) ∧ ents.toList.map (fun e => (e.key, e.val)) = es.map fun p => (p.1.re n, p.2.re n)
  | .loop s p f t ps a b, o => ∃ lp : Loop, o = some (.loop lp) ∧ lp.state = s ∧ lp.pending = p ∧ lp.params.toList = ps ∧ lp.assign = a ∧ lp.body = b ∧ TR n N m t lp.tmps
  | .bag, o => ∃ (ents : Array MapEntry) (cl : Nat), o = some (.map ents cl)
  | .look _ es, o => (∀ p ∈ es, p.1.Ok N m ∧ p.2.Ok N m) ∧ ∃ (ents : Array MapEntry) (cl : Nat), o = some (.map ents cl) ∧ (ents.toList.map (fun e => (e.key, e.val))).Perm (es.map fun p => (p.1.re n, p.2.re n))
  | .dead, _ => True

structure HR (w0 : World) (kp : Nat → Prop) (hid : List Nat) (ro : Nat) (n : En) (m : Nat) (h : List SO) (w : World) : Prop where
  os : w.os = w0.os
  tape : w.tape = w0.tape
  output : w.output = w0.output
  size : w0.heap.size ≤ w.heap.size
  kept : ∀ b, kp b → b < w0.heap.size ∧ w.heap[b]? = w0.heap[b]?
  hids : ∀ D, D ∈ hid → ¬ kp D ∧ w.heap[D]? = some (.deferred (some []))
  nodup : hid.Nodup
  blk : ∀ i o, h[i]? = some o → OR n h.length m (n.κ i) o (w.heap[n.ε i]?)
  inj : ∀ i j oi oj, h[i]? = some oi → h[j]? = some oj → oi.alive = true → oj.alive = true → n.ε i = n.ε j → i = j
  own : ∀ i o, h[i]? = some o → o.alive = true → ro ≤ i → ¬ kp (n.ε i)
  nohid : ∀ i o, h[i]? = some o → o.alive = true → n.ε i ∉ hid

theorem TR.mono {n n' : En} {N m N' m' : Nat} {t : List (Option SV)} {a : Array Value} (h : TR n N m t a) (hN : N ≤ N') (hm : m ≤ m') (hag : En.Agree N m n n') : TR n' N' m' t a :=
  ⟨h.1, fun i v hv => ⟨SV.Ok_mono hN hm v (h.2 i v hv).1, by rw [← SV.re_agree hag v (h.2 i v hv).1]; exact (h.2 i v hv).2⟩⟩

theorem OR.there {n : En} {N m k : Nat} {o : SO} {x : Option Obj} (h : OR n N m k o x) (ha : o.alive = true) : ∃ y, x = some y := by
  cases o <;> simp [SO.alive] at ha <;> simp only [OR] at h
  · exact ⟨_, h.2⟩
  · obtain ⟨_, _, h, _⟩ := h; exact ⟨_, h⟩
  · obtain ⟨_, _, _, h, _⟩ := h; exact ⟨_, h⟩
  · obtain ⟨_, h, _⟩ := h; exact ⟨_, h⟩
  · obtain ⟨_, _, h⟩ := h; exact ⟨_, h⟩
  · obtain ⟨_, _, _, h, _⟩ := h; exact ⟨_, h⟩

theorem OR.mono {n n' : En} {N m N' m' k : Nat} {o : SO} {x : Option Obj} (h : OR n N m k o x) (hN : N ≤ N') (hm : m ≤ m') (hag : En.Agree N m n n') : OR n' N' m' k o x := by
  cases o with
  | cells cs e => exact ⟨SV.OkL_mono hN hm cs h.1, by rw [← SV.reL_agree hag cs h.1]; exact h.2⟩
  | grow cs e sz => exact ⟨SV.OkL_mono hN hm cs h.1, by rw [← SV.reL_agree hag cs h.1]; exact h.2⟩
  | map es cl =>
    refine ⟨fun p hp => ⟨SV.Ok_mono hN hm _ (h.1 p hp).1, SV.Ok_mono hN hm _ (h.1 p hp).2⟩, ?_⟩
    obtain ⟨hok, ents, c, h1, h2⟩ := h
    refine ⟨ents, c, h1, h2.trans ?_⟩
    refine List.map_congr_left fun p hp => ?_
    rw [SV.re_agree hag _ (hok p hp).1, SV.re_agree hag _ (hok p hp).2]
  | loop s p f t ps a b =>
    obtain ⟨lp, h1, h2, h3, h5, h6, h7, h8⟩ := h
    exact ⟨lp, h1, h2, h3, h5, h6, h7, h8.mono hN hm hag⟩
  | bag => exact h
  | look ks es =>
    refine ⟨fun p hp => ⟨SV.Ok_mono hN hm _ (h.1 p hp).1, SV.Ok_mono hN hm _ (h.1 p hp).2⟩, ?_⟩
    obtain ⟨hok, ents, c, h1, h2⟩ := h
    refine ⟨ents, c, h1, h2.trans (List.Perm.of_eq ?_)⟩
    refine List.map_congr_left fun p hp => ?_
    rw [SV.re_agree hag _ (hok p hp).1, SV.re_agree hag _ (hok p hp).2]
  | dead => trivial

section HR
variable {w0 w : World} {kp : Nat → Prop} {hid : List Nat} {ro : Nat} {n : En} {m : Nat} {h : List SO}

theorem HR.lt (H : HR w0 kp hid ro n m h w) {i : Nat} {o : SO} (hi : h[i]? = some o) (ha : o.alive = true) : n.ε i < w.heap.size := by
  obtain ⟨y, hy⟩ := (H.blk i o hi).there ha
  exact (Array.getElem?_eq_some_iff.1 hy).1

/-- Another interpretation that agrees. -/
theorem HR.agree (H : HR w0 kp hid ro n m h w) {n' : En} {m' : Nat} (hm : m ≤ m') (hag : En.Agree h.length m n n') : HR w0 kp hid ro n' m' h w := by
  have hlt : ∀ {i o}, h[i]? = some o → i < h.length := fun hi => (List.getElem?_eq_some_iff.1 hi).1
  refine { H with blk := ?_, inj := ?_, own := ?_, nohid := ?_ }
  · intro i o hi
    rw [← hag.ε i (hlt hi), ← hag.κ i (hlt hi)]
    exact (H.blk i o hi).mono (Nat.le_refl _) hm hag
  · intro i j oi oj hi hj hai haj he
    rw [← hag.ε i (hlt hi), ← hag.ε j (hlt hj)] at he
    exact H.inj i j oi oj hi hj hai haj he
  · intro i o hi ha hro
    rw [← hag.ε i (hlt hi)]; exact H.own i o hi ha hro
  · intro i o hi ha
    rw [← hag.ε i (hlt hi)]; exact H.nohid i o hi ha

/-- A view: some objects forgotten. -/
theorem HR.view (H : HR w0 kp hid ro n m h w) {hv : List SO} (hl : hv.length = h.length) (hs : ∀ (i : Nat) (o : SO), hv[i]? = some o → o.alive = true → h[i]? = some o) : HR w0 kp hid ro n m hv w := by
  refine { H with blk := ?_, inj := ?_, own := ?_, nohid := ?_ }
  · intro i o hi
    by_cases ha : o.alive = true
    · rw [hl]; exact H.blk i o (hs i o hi ha)
    · cases o <;> simp [SO.alive] at ha
      trivial
  · intro i j oi oj hi hj hai haj he
    exact H.inj i j oi oj (hs i oi hi hai) (hs j oj hj haj) hai haj he
  · exact fun i o hi ha hro => H.own i o (hs i o hi ha) ha hro
  · exact fun i o hi ha => H.nohid i o (hs i o hi ha) ha

/-- The number of a new object is known. -/
def En.bind (n : En) (i b k : Nat) : En := { n with ε := fun j => if j = i then b else n.ε j, κ := fun j => if j = i then k else n.κ j }

theorem En.bind_agree (n : En) (i b k m : Nat) : En.Agree i m n (n.bind i b k) :=
  ⟨rfl, fun _ _ => rfl, fun j hj => by simp [En.bind, Nat.ne_of_lt hj], fun j hj => by simp [En.bind, Nat.ne_of_lt hj]⟩
@[simp] theorem En.bind_ε_same (n : En) (i b k : Nat) : (n.bind i b k).ε i = b := by simp [En.bind]
@[simp] theorem En.bind_κ_same (n : En) (i b k : Nat) : (n.bind i b k).κ i = k := by simp [En.bind]
@[simp] theorem En.bind_Φ (n : En) (i b k : Nat) : (n.bind i b k).Φ = n.Φ := rfl
@[simp] theorem En.bind_ρ (n : En) (i b k : Nat) : (n.bind i b k).ρ = n.ρ := rfl

/-- The world, one block turned. -/
structure Turned (w w' : World) (b : Nat) (x : Obj) : Prop where
  os : w'.os = w.os
  tape : w'.tape = w.tape
  output : w'.output = w.output
  size : w'.heap.size = w.heap.size
  at_ : w'.heap[b]? = some x
  rest : ∀ k, k ≠ b → w'.heap[k]? = w.heap[k]?

/-- A new block. -/
theorem HR.alloc (H : HR w0 kp hid ro n m h w) (o : SO) (x : Obj) (k : Nat) (ho : OR (n.bind h.length w.heap.size k) (h.length + 1) m k o (some x)) :
    HR w0 kp hid ro (n.bind h.length w.heap.size k) m (h ++ [o]) (w.alloc x) := by
  have hlen : (h ++ [o]).length = h.length + 1 := by simp
  have hsz : ∀ b, b < w.heap.size → (w.alloc x).heap[b]? = w.heap[b]? := fun b hb => Below.heap_alloc w x b hb
  have hnew : (w.alloc x).heap[w.heap.size]? = some x := World.alloc_heap_new w x
  have hag := En.bind_agree n h.length w.heap.size k m
  have hcase : ∀ {i : Nat} {q : SO}, (h ++ [o])[i]? = some q → (i < h.length ∧ h[i]? = some q) ∨ (i = h.length ∧ q = o) := by
    intro i q hi
    rcases Nat.lt_trichotomy i h.length with hlt | heq | hgt
    · exact .inl ⟨hlt, by rwa [List.getElem?_append_left hlt] at hi⟩
    · right; subst heq; simp at hi; exact ⟨rfl, hi.symm⟩
    · rw [List.getElem?_eq_none (by simp; omega)] at hi; cases hi
  refine ⟨H.os, H.tape, H.output, ?_, ?_, ?_, H.nodup, ?_, ?_, ?_, ?_⟩
  · have := H.size; simp; omega
  · intro b hb
    obtain ⟨h1, h2⟩ := H.kept b hb
    exact ⟨h1, (hsz b (by have := H.size; omega)).trans h2⟩
  · intro D hD
    obtain ⟨h1, h2⟩ := H.hids D hD
    exact ⟨h1, (hsz D (Array.getElem?_eq_some_iff.1 h2).1).trans h2⟩
  · intro i q hi
    rw [hlen]
    rcases hcase hi with ⟨hlt, hi'⟩ | ⟨rfl, rfl⟩
    · rw [← hag.ε i hlt, ← hag.κ i hlt]
      have hb := H.blk i q hi'
      by_cases ha : q.alive = true
      · rw [hsz _ (H.lt hi' ha)]
        exact hb.mono (by omega) (Nat.le_refl _) hag
      · cases q <;> simp [SO.alive] at ha
        trivial
    · rw [En.bind_ε_same, En.bind_κ_same, hnew]; exact ho
  · intro i j oi oj hi hj hai haj he
    rcases hcase hi with ⟨hlt, hi'⟩ | ⟨rfl, rfl⟩ <;> rcases hcase hj with ⟨hlt', hj'⟩ | ⟨rfl, rfl⟩
    · rw [← hag.ε i hlt, ← hag.ε j hlt'] at he
      exact H.inj i j oi oj hi' hj' hai haj he
    · rw [← hag.ε i hlt, En.bind_ε_same] at he
      have := H.lt hi' hai; omega
    · rw [← hag.ε j hlt', En.bind_ε_same] at he
      have := H.lt hj' haj; omega
    · rfl
  · intro i q hi ha hro
    rcases hcase hi with ⟨hlt, hi'⟩ | ⟨rfl, rfl⟩
    · rw [← hag.ε i hlt]; exact H.own i q hi' ha hro
    · rw [En.bind_ε_same]; intro hk
      have := (H.kept _ hk).1; have := H.size; omega
  · intro i q hi ha
    rcases hcase hi with ⟨hlt, hi'⟩ | ⟨rfl, rfl⟩
    · rw [← hag.ε i hlt]; exact H.nohid i q hi' ha
    · rw [En.bind_ε_same]; intro hk
      have := (Array.getElem?_eq_some_iff.1 (H.hids _ hk).2).1; omega

/-- A block of the run's own, turned. -/
theorem HR.set (H : HR w0 kp hid ro n m h w) {i : Nat} {o : SO} (hi : h[i]? = some o) (ha : o.alive = true) (hro : ro ≤ i) {w' : World} {x : Obj} (ht : Turned w w' (n.ε i) x)
    (o' : SO) (ho : OR n h.length m (n.κ i) o' (some x)) : HR w0 kp hid ro n m (h.set i o') w' := by
  have hcase : ∀ {j : Nat} {q : SO}, (h.set i o')[j]? = some q → (j = i ∧ q = o') ∨ (j ≠ i ∧ h[j]? = some q) := by
    intro j q hj
    rw [List.getElem?_set] at hj
    split at hj
    · rename_i e; subst e
      split at hj
      · cases hj; exact .inl ⟨rfl, rfl⟩
      · cases hj
    · rename_i e; exact .inr ⟨fun e' => e e'.symm, hj⟩
  have hne : ∀ {j : Nat} {q : SO}, h[j]? = some q → q.alive = true → j ≠ i → n.ε j ≠ n.ε i := fun hj hq hji e => hji (H.inj _ _ _ _ hj hi hq ha e)
  refine ⟨ht.os.trans H.os, ht.tape.trans H.tape, ht.output.trans H.output, by rw [ht.size]; exact H.size, ?_, ?_, H.nodup, ?_, ?_, ?_, ?_⟩
  · intro b hb
    obtain ⟨h1, h2⟩ := H.kept b hb
    refine ⟨h1, (ht.rest b ?_).trans h2⟩
    intro e; exact H.own i o hi ha hro (e ▸ hb)
  · intro D hD
    obtain ⟨h1, h2⟩ := H.hids D hD
    refine ⟨h1, (ht.rest D ?_).trans h2⟩
    intro e; exact H.nohid i o hi ha (e ▸ hD)
  · intro j q hj
    rw [List.length_set]
    rcases hcase hj with ⟨rfl, rfl⟩ | ⟨hji, hj'⟩
    · rw [ht.at_]; exact ho
    · by_cases hq : q.alive = true
      · rw [ht.rest _ (hne hj' hq hji)]; exact H.blk j q hj'
      · cases q <;> simp [SO.alive] at hq
        trivial
  · intro j k oj ok hj hk haj hak he
    rcases hcase hj with ⟨rfl, rfl⟩ | ⟨hji, hj'⟩ <;> rcases hcase hk with ⟨rfl, rfl⟩ | ⟨hki, hk'⟩
    · rfl
    · exact absurd he.symm (hne hk' hak hki)
    · exact absurd he (hne hj' haj hji)
    · exact H.inj j k oj ok hj' hk' haj hak he
  · intro j q hj hq hr
    rcases hcase hj with ⟨rfl, rfl⟩ | ⟨hji, hj'⟩
    · exact H.own j o hi ha hr
    · exact H.own j q hj' hq hr
  · intro j q hj hq
    rcases hcase hj with ⟨rfl, rfl⟩ | ⟨hji, hj'⟩
    · exact H.nohid j o hi ha
    · exact H.nohid j q hj' hq

/-- Fewer objects. -/
theorem HR.kill (H : HR w0 kp hid ro n m h w) (i : Nat) : HR w0 kp hid ro n m (h.set i .dead) w := by
  refine H.view (by simp) ?_
  intro j o hj ha
  rw [List.getElem?_set] at hj
  split at hj
  · split at hj
    · cases hj; simp [SO.alive] at ha
    · cases hj
  · exact hj
end HR

/-! ### Trees -/
/-- What the loops are told: of each, by its first variable: what holds of its variables; a measure. -/
structure Owe where
  dom : Nat → List Int → Prop
  inv : Nat → List Int → Prop
  mu : Nat → List Int → Nat

def upd (ρ : Nat → Int) (base : Nat) (v : List Int) : Nat → Int := fun i => if base ≤ i then (match v[i - base]? with | some x => x | none => ρ i) else ρ i

def cur (ρ : Nat → Int) (base len : Nat) : List Int := (List.range len).map fun i => ρ (base + i)

def T.Ev {α : Type} (Φ : Spec) (O : Owe) : T α → (Nat → Int) → ((Nat → Int) → α → Prop) → Prop
  | .leaf a, ρ, Q => Q ρ a
  | .ite c t e, ρ, Q => (c.den Φ ρ ≠ 0 → t.Ev Φ O ρ Q) ∧ (c.den Φ ρ = 0 → e.Ev Φ O ρ Q)
  | .need s args k, ρ, Q => O.dom s (E.denL Φ ρ args) ∧ k.Ev Φ O ρ Q
  | .loop l init base step, ρ, Q => O.inv l (E.denL Φ ρ init) ∧ ∀ v, v.length = init.length → O.inv l v → step.Ev Φ O (upd ρ base v) Q
  | .again l es, ρ, _ => O.inv l (E.denL Φ ρ es) ∧ O.mu l (E.denL Φ ρ es) < O.mu l (cur ρ l es.length)
  | .fail _, _, _ => False

theorem T.Ev_bind {α β : Type} {Φ : Spec} {O : Owe} : ∀ (t : T α) (f : α → T β) (ρ : Nat → Int) (Q : (Nat → Int) → β → Prop), (t.bind f).Ev Φ O ρ Q ↔ t.Ev Φ O ρ fun ρ a => (f a).Ev Φ O ρ Q
  | .leaf a, f, ρ, Q => Iff.rfl
  | .ite c t e, f, ρ, Q => by simp only [T.bind, T.Ev]; rw [T.Ev_bind t f ρ Q, T.Ev_bind e f ρ Q]
  | .need s args k, f, ρ, Q => by simp only [T.bind, T.Ev]; rw [T.Ev_bind k f ρ Q]
  | .loop l init base step, f, ρ, Q => by
    simp only [T.bind, T.Ev]
    constructor
    · exact fun h => ⟨h.1, fun v hv hi => (T.Ev_bind step f _ Q).1 (h.2 v hv hi)⟩
    · exact fun h => ⟨h.1, fun v hv hi => (T.Ev_bind step f _ Q).2 (h.2 v hv hi)⟩
  | .again l es, f, ρ, Q => Iff.rfl
  | .fail w, f, ρ, Q => Iff.rfl

theorem T.Ev_mono {α : Type} {Φ : Spec} {O : Owe} : ∀ (t : T α) (ρ : Nat → Int) {Q Q' : (Nat → Int) → α → Prop}, (∀ ρ a, Q ρ a → Q' ρ a) → t.Ev Φ O ρ Q → t.Ev Φ O ρ Q'
  | .leaf a, ρ, _, _, h, q => h _ _ q
  | .ite c t e, ρ, _, _, h, q => ⟨fun hc => T.Ev_mono t ρ h (q.1 hc), fun hc => T.Ev_mono e ρ h (q.2 hc)⟩
  | .need s args k, ρ, _, _, h, q => ⟨q.1, T.Ev_mono k ρ h q.2⟩
  | .loop l init base step, ρ, _, _, h, q => ⟨q.1, fun v hv hi => T.Ev_mono step _ h (q.2 v hv hi)⟩
  | .again l es, ρ, _, _, h, q => q
  | .fail w, ρ, _, _, h, q => q

theorem Ev_branch {α : Type} {Φ : Spec} {O : Owe} {c : E} {t e : T α} {ρ : Nat → Int} {Q : (Nat → Int) → α → Prop} (h : (branch c t e).Ev Φ O ρ Q) :
    (c.den Φ ρ ≠ 0 → t.Ev Φ O ρ Q) ∧ (c.den Φ ρ = 0 → e.Ev Φ O ρ Q) := by
  unfold branch at h
  split at h
  · rename_i k n
    simp only [E.den]
    split at h
    · rename_i hn; exact ⟨fun hc => absurd hn hc, fun _ => h⟩
    · rename_i hn; exact ⟨fun _ => h, fun hc => absurd hc hn⟩
  · exact h

theorem Ev_lift {α β : Type} {Φ : Spec} {O : Owe} {o : Option α} {s : String} {f : α → T β} {ρ : Nat → Int} {Q : (Nat → Int) → β → Prop} (h : ((lift o s).bind f).Ev Φ O ρ Q) :
    ∃ a, o = some a ∧ (f a).Ev Φ O ρ Q := by
  cases o with
  | none => exact h.elim
  | some a => exact ⟨a, rfl, h⟩

end Go.Sx

/- One operation: what the symbolic run tells is what the model does. -/
namespace Go.Sx
open Go.RowKit

/-! ### Constants, operands -/
theorem ofV_re (n : En) (N m : Nat) : ∀ (v : Value) (s : SV), ofV v = some s → s.Ok N m ∧ s.re n = v := by
  intro v
  refine ofV.induct (motive_1 := fun v => ∀ s, ofV v = some s → s.Ok N m ∧ s.re n = v) (motive_2 := fun l => ∀ s, ofVL l = some s → SV.OkL N m s ∧ SV.reL n s = l) ?_ ?_ ?_ ?_ ?_ ?_ ?_ ?_ ?_ ?_ ?_ ?_ ?_ v
  · intro k x h s hs
    simp only [ofV, h, if_true] at hs; cases hs
    exact ⟨rfl, by simp [SV.re, E.den, K.norm, h]⟩
  · intro k x h s hs; simp [ofV, h] at hs
  · intro b s hs; simp only [ofV] at hs; cases hs
    exact ⟨rfl, by simp only [SV.re, E.den, norm_b2i, b2i_ne]⟩
  · intro s hs; simp only [ofV] at hs; cases hs; exact ⟨trivial, rfl⟩
  · intro s hs; simp only [ofV] at hs; cases hs; exact ⟨trivial, rfl⟩
  · intro s hs; simp only [ofV] at hs; cases hs; exact ⟨trivial, rfl⟩
  · intro s hs; simp only [ofV] at hs; cases hs; exact ⟨trivial, rfl⟩
  · intro cs ih s hs
    simp only [ofV] at hs
    cases hl : ofVL cs.toList with
    | none => simp [hl] at hs
    | some l => simp only [hl, Option.map_some, Option.some.injEq] at hs; subst hs; obtain ⟨h1, h2⟩ := ih l hl; exact ⟨h1, by simp [SV.re, h2]⟩
  · intro cs ih s hs
    simp only [ofV] at hs
    cases hl : ofVL cs.toList with
    | none => simp [hl] at hs
    | some l => simp only [hl, Option.map_some, Option.some.injEq] at hs; subst hs; obtain ⟨h1, h2⟩ := ih l hl; exact ⟨h1, by simp [SV.re, h2]⟩
  · intro t h1 h2 h3 h4 h5 h6 h7 h8 s hs
    cases t <;> first | (exact absurd rfl (h1 _ _)) | (exact absurd rfl (h2 _)) | (exact absurd rfl h6) | (exact absurd rfl (h7 _)) | (exact absurd rfl (h8 _)) | skip
    all_goals (unfold ofV at hs; first | (split at hs <;> simp_all) | simp_all)
  · intro s hs; simp only [ofVL] at hs; cases hs; exact ⟨trivial, rfl⟩
  · intro v r a b hb ha ih1 ih2 s hs
    simp only [ofVL, ha, hb] at hs; cases hs
    obtain ⟨p1, p2⟩ := ih1 a ha
    obtain ⟨q1, q2⟩ := ih2 b hb
    exact ⟨⟨p1, q1⟩, by simp [SV.reL, p2, q2]⟩
  · intro v r h ih1 ih2 s hs
    exfalso
    unfold ofVL at hs
    split at hs
    · rename_i a b ha hb; exact h a b ha hb
    · cases hs

theorem undefS_re (n : En) : undefS.re n = undef := rfl
theorem undefS_ok (N m : Nat) : undefS.Ok N m := trivial

section eval
variable {n : En} {m : Nat} {st : St} {a : Act}

theorem eval_ok (hT : TR n st.heap.length m st.tmps a.tmps) {x : Operand} {v : SV} (h : st.eval x = some v) : v.Ok st.heap.length m ∧ a.eval x = v.re n := by
  cases x with
  | tmp t =>
    simp only [St.eval, atR_eq] at h
    split at h
    · rename_i u hu; cases h
      obtain ⟨h1, h2⟩ := hT.2 t v hu
      exact ⟨h1, by simp only [Act.eval]; rw [Array.getD_eq_getD_getElem?, h2]; rfl⟩
    · cases h
  | const c =>
    obtain ⟨h1, h2⟩ := ofV_re n st.heap.length m c v h
    exact ⟨h1, h2.symm⟩
  | global g => simp [St.eval, atR_eq] at h
  | func f => simp only [St.eval, Option.some.injEq, atR_eq] at h; subst h; exact ⟨⟨trivial, trivial⟩, rfl⟩

theorem evalL_ok (hT : TR n st.heap.length m st.tmps a.tmps) : ∀ {l : List Operand} {vs : List SV}, evalL st l = some vs → SV.OkL st.heap.length m vs ∧ l.map a.eval = SV.reL n vs
  | [], vs, h => by simp only [evalL] at h; cases h; exact ⟨trivial, rfl⟩
  | x :: r, vs, h => by
    simp only [evalL] at h
    split at h
    · rename_i v l hv hl; cases h
      obtain ⟨h1, h2⟩ := eval_ok hT hv
      obtain ⟨h3, h4⟩ := evalL_ok hT hl
      exact ⟨⟨h1, h3⟩, by simp [SV.reL, h2, h4]⟩
    · cases h

theorem evalParts_ok (hT : TR n st.heap.length m st.tmps a.tmps) : ∀ {l : List (Nat × Operand)} {vs : List (Nat × SV)}, evalParts st l = some vs →
    (∀ p ∈ vs, p.2.Ok st.heap.length m) ∧ l.map (fun p => (p.1, a.eval p.2)) = vs.map fun p => (p.1, p.2.re n)
  | [], vs, h => by simp only [evalParts] at h; cases h; exact ⟨by simp, rfl⟩
  | (i, x) :: r, vs, h => by
    simp only [evalParts] at h
    split at h
    · rename_i v l hv hl; cases h
      obtain ⟨h1, h2⟩ := eval_ok hT hv
      obtain ⟨h3, h4⟩ := evalParts_ok hT hl
      exact ⟨fun p hp => (List.mem_cons.1 hp).elim (fun e => by rw [e]; exact h1) (h3 p), by simp [h2, h4]⟩
    · cases h
end eval

/-! ### Tables -/
section tables
variable {P : Program} {t : TypeId} (w : World)

theorem run_sizeOf' {k : Nat} (h : sizeOf? P t = some k) : (sizeOf t).run P w = .ok k w := by
  unfold sizeOf? at h
  cases hi : P.info? t with
  | none => simp [hi] at h
  | some i => simp only [hi, Option.map_some, Option.some.injEq] at h; simp [sizeOf, typeInfo, hi, h]

theorem run_isAgg' {b : Bool} (h : isAgg? P t = some b) : (isAgg t).run P w = .ok b w := by
  unfold isAgg? at h
  cases hu : P.underlying t with
  | none => simp [hu] at h
  | some d =>
    rw [hu] at h
    cases d <;> simp at h <;> subst h <;> simp [isAgg, run_underlying hu]

theorem run_zero' {z : SV} (n : En) (N m : Nat) (h : zero? P t = some z) : (zeroValue t).run P w = .ok (z.re n) w ∧ z.Ok N m := by
  unfold zero? at h
  cases hi : P.info? t with
  | none => simp [hi] at h
  | some i =>
    simp only [hi, Option.bind_some] at h
    cases hz : i.zero with
    | none => simp [hz] at h
    | some v =>
      simp only [hz, Option.bind_some] at h
      obtain ⟨h1, h2⟩ := ofV_re n N m v z h
      exact ⟨by simp [zeroValue, typeInfo, hi, hz, h2], h1⟩
end tables

/-! ### Cells -/
theorem re_cells (n : En) (v : SV) : (v.re n).cells = (SV.reL n v.cells).toArray := by
  cases v <;> rfl

theorem ok_cells {N m : Nat} {v : SV} (h : v.Ok N m) : SV.OkL N m v.cells := by
  cases v <;> first | exact h | exact ⟨h, trivial⟩

theorem reL_length (n : En) (l : List SV) : (SV.reL n l).length = l.length := by simp [SV.reL_eq]
theorem reL_seg (n : En) (l : List SV) (a b : Nat) : SV.reL n (seg l a b) = seg (SV.reL n l) a b := by simp [SV.reL_eq, seg_eq, List.map_take, List.map_drop]
theorem reL_get (n : En) (l : List SV) (i : Nat) : (SV.reL n l)[i]? = (l[i]?).map (·.re n) := by simp [SV.reL_eq]
theorem reL_append (n : En) (a b : List SV) : SV.reL n (a ++ b) = SV.reL n a ++ SV.reL n b := by simp [SV.reL_eq]
theorem okL_seg {N m : Nat} {l : List SV} (h : SV.OkL N m l) (a b : Nat) : SV.OkL N m (seg l a b) := by
  rw [SV.OkL_iff] at *; rw [seg_eq]; exact fun v hv => h v (List.mem_of_mem_drop (List.mem_of_mem_take hv))
theorem okL_get {N m : Nat} {l : List SV} (h : SV.OkL N m l) {i : Nat} {v : SV} (hi : l[i]? = some v) : v.Ok N m := SV.OkL_iff.1 h v (List.mem_of_getElem? hi)
theorem okL_append {N m : Nat} {a b : List SV} : SV.OkL N m (a ++ b) ↔ SV.OkL N m a ∧ SV.OkL N m b := by
  simp only [SV.OkL_iff, List.mem_append]; exact ⟨fun h => ⟨fun v hv => h v (.inl hv), fun v hv => h v (.inr hv)⟩, fun h v hv => hv.elim (h.1 v) (h.2 v)⟩
theorem okL_overlay {N m : Nat} {cs new : List SV} (h : SV.OkL N m cs) (h' : SV.OkL N m new) (off : Nat) : SV.OkL N m (overlay cs off new) := by
  unfold overlay; rw [okL_append, okL_append]
  exact ⟨⟨SV.OkL_iff.2 fun v hv => SV.OkL_iff.1 h v (List.mem_of_mem_take hv), h'⟩, SV.OkL_iff.2 fun v hv => SV.OkL_iff.1 h v (List.mem_of_mem_drop hv)⟩
theorem reL_overlay (n : En) (cs new : List SV) (off : Nat) : SV.reL n (overlay cs off new) = (SV.reL n cs).take off ++ SV.reL n new ++ (SV.reL n cs).drop (off + new.length) := by
  simp [overlay, SV.reL_eq, List.map_take, List.map_drop]
theorem overlay_length {cs new : List SV} {off : Nat} (h : off + new.length ≤ cs.length) : (overlay cs off new).length = cs.length := by simp [overlay]; omega

theorem oneCell_re (n : En) {v : SV} (h : v.oneCell = true) : (v.re n).oneCell' = true := by cases v <;> first | rfl | simp [SV.oneCell] at h

/-- What lies behind an object's first cells. -/
theorem OR.readable {n : En} {N m k : Nat} {o : SO} {x : Option Obj} {cs : List SV} (h : OR n N m k o x) (hr : o.read = some cs) :
    SV.OkL N m cs ∧ ∃ (rest : List Value) (e : TypeId), x = some (.cells (SV.reL n cs ++ rest).toArray e (0, 0)) ∧
      ∀ (cs' : List SV) (o' : SO), o.write cs' = some o' → SV.OkL N m cs' → cs'.length = cs.length → OR n N m k o' (some (.cells (SV.reL n cs' ++ rest).toArray e (0, 0))) := by
  cases o <;> simp only [SO.read, Option.some.injEq] at hr <;> try (cases hr; done)
  · subst hr
    refine ⟨h.1, [], _, by simpa using h.2, fun cs' o' hw hok hl => ?_⟩
    simp only [SO.write, Option.some.injEq] at hw; subst hw
    exact ⟨hok, by simp⟩
  · subst hr
    obtain ⟨h1, rest, h2, h3⟩ := h
    refine ⟨h1, rest, _, h2, fun cs' o' hw hok hl => ?_⟩
    simp only [SO.write, Option.some.injEq] at hw; subst hw
    exact ⟨hok, rest, rfl, by rw [hl]; exact h3⟩

theorem cell_at {w : World} {b : Nat} {l : List Value} {e : TypeId} {fr : Nat × Nat} (h : w.heap[b]? = some (.cells l.toArray e fr)) (o : Nat) : w.cell? ⟨b, o, none⟩ = l[o]? := by
  simp [World.cell?, h]

theorem addr_add (b o j : Nat) : (⟨b, o, none⟩ : Addr).add j = ⟨b, o + j, none⟩ := by
  unfold Addr.add; split <;> simp_all

theorem run_loadCells_seg {P : Program} {w : World} {b : Nat} {l : List Value} {e : TypeId} {fr : Nat × Nat} (h : w.heap[b]? = some (.cells l.toArray e fr)) {o k : Nat} (hk : o + k ≤ l.length) :
    (loadCells ⟨b, o, none⟩ k).run P w = .ok (seg l o k).toArray w := by
  have hlen : (seg l o k).length = k := by simp [seg_eq]; omega
  have := run_loadCells_list (P := P) w ⟨b, o, none⟩ (seg l o k) (fun j v hj => by
    rw [addr_add, cell_at h]
    have hj' : j < k := by rw [← hlen]; exact (List.getElem?_eq_some_iff.1 hj).1
    simpa [seg_eq, List.getElem?_take, hj', List.getElem?_drop] using hj)
  rwa [hlen] at this

section HRops
variable {P : Program} {w0 w : World} {kp : Nat → Prop} {hid : List Nat} {ro : Nat} {n : En} {m : Nat} {h : List SO}

theorem HR.read (H : HR w0 kp hid ro n m h w) {b : Nat} {cs : List SV} (hr : readAt h b = some cs) :
    SV.OkL h.length m cs ∧ ∃ (rest : List Value) (e : TypeId), w.heap[n.ε b]? = some (.cells (SV.reL n cs ++ rest).toArray e (0, 0)) := by
  unfold readAt at hr
  rw [atR_eq] at hr
  cases hb : h[b]? with
  | none => simp [hb] at hr
  | some o =>
    simp only [hb, Option.bind_some] at hr
    obtain ⟨h1, rest, e, h2, _⟩ := (H.blk b o hb).readable hr
    exact ⟨h1, rest, e, h2⟩

theorem run_load_sv (H : HR w0 kp hid ro n m h w) {t : TypeId} {b off : Nat} {v : SV} (hl : load? P h t b off = some v) :
    v.Ok h.length m ∧ (loadVar t ⟨n.ε b, off, none⟩).run P w = .ok (v.re n) w := by
  unfold load? at hl
  simp only [atR_eq] at hl
  split at hl
  · rename_i cs k hcs hagg hsz
    split at hl
    · rename_i hle; cases hl
      obtain ⟨h1, rest, e, h2⟩ := H.read hcs
      refine ⟨okL_seg h1 _ _, ?_⟩
      simp only [loadVar, Sem.run_bind, run_isAgg' w hagg, Result.andThen_ok, if_true, run_sizeOf' w hsz]
      rw [run_loadCells_seg h2 (by simp [reL_length]; omega)]
      simp only [Result.andThen_ok, Sem.run_pure, SV.re, reL_seg]
      congr 3
      simp only [seg_eq]
      rw [List.drop_append_of_le_length (by rw [reL_length]; omega), List.take_append_of_le_length (by simp [reL_length]; omega)]
    · cases hl
  · rename_i cs hcs hagg
    obtain ⟨h1, rest, e, h2⟩ := H.read hcs
    refine ⟨okL_get h1 hl, ?_⟩
    simp only [loadVar, Sem.run_bind, run_isAgg' w hagg, Result.andThen_ok, Bool.false_eq_true, if_false, run_load]
    have hlt : off < cs.length := (List.getElem?_eq_some_iff.1 hl).1
    rw [cell_at h2, List.getElem?_append_left (by rw [reL_length]; exact hlt), reL_get, hl]
    rfl
  · cases hl

theorem setRow_turned {b : Nat} {l l' : Array Value} {e : TypeId} (h : w.heap[b]? = some (.cells l e (0, 0))) : Turned w (w.setRow b l') b (.cells l' e (0, 0)) := by
  refine ⟨rfl, rfl, rfl, by simp [World.setRow], setRow_heap w b l l' e (0, 0) h, fun k hk => ?_⟩
  simp only [World.setRow, Array.getElem?_modify]
  rw [if_neg (fun e => hk e.symm)]

theorem run_store_sv (H : HR w0 kp hid ro n m h w) {t : TypeId} {b off : Nat} {v : SV} (hv : v.Ok h.length m) {r : R} (hs : store? P ro h t b off v = some r) :
    ro ≤ b ∧ ∃ (o o' : SO) (x : Obj) (w' : World), r = ⟨none, [(b, o')], []⟩ ∧ h[b]? = some o ∧ o.alive = true ∧ (storeVar t ⟨n.ε b, off, none⟩ (v.re n)).run P w = .ok () w' ∧ Turned w w' (n.ε b) x ∧ OR n h.length m (n.κ b) o' (some x) := by
  unfold store? at hs
  simp only [atR_eq] at hs
  split at hs
  · cases hs
  rename_i hro
  refine ⟨by omega, ?_⟩
  split at hs
  · rename_i o k ho hsz
    split at hs
    · rename_i cs hcs
      split at hs
      · rename_i hc
        obtain ⟨hk, hle, hone⟩ := hc
        split at hs
        · rename_i o' hw; cases hs
          obtain ⟨h1, rest, e, h2, h3⟩ := (H.blk b o ho).readable hcs
          have hlen : (overlay cs off v.cells).length = cs.length := overlay_length hle
          refine ⟨o, o', _, w.setRow (n.ε b) (SV.reL n (overlay cs off v.cells) ++ rest).toArray, rfl, ho, ?_, ?_, setRow_turned h2, h3 _ o' hw (okL_overlay h1 (ok_cells hv) off) hlen⟩
          · cases o <;> simp [SO.read] at hcs <;> rfl
          · have hsz' : (v.re n).cells.size = k := by rw [re_cells]; simp [reL_length, hk]
            simp only [storeVar, Sem.run_bind, run_sizeOf' w hsz, Result.andThen_ok, hsz', ne_eq, not_true_eq_false, if_false, Sem.run_pure]
            have := run_storeCells_at (P := P) (n.ε b) off e (SV.reL n v.cells) 0 (SV.reL n cs ++ rest).toArray w h2 (by simp [reL_length]; omega) (by
              intro x hx
              rw [SV.reL_eq] at hx
              obtain ⟨y, hy, rfl⟩ := List.mem_map.1 hx
              exact oneCell_re n (List.all_eq_true.1 hone y hy))
            rw [re_cells]
            simp only [List.toList_toArray] at this ⊢
            rw [this]
            congr 2
            rw [reL_overlay, Nat.add_zero, reL_length]
            rw [List.take_append_of_le_length (by rw [reL_length]; omega), List.drop_append_of_le_length (by rw [reL_length]; omega)]
            simp [List.append_assoc]
        · cases hs
      · cases hs
    · cases hs
  · cases hs
end HRops

end Go.Sx

/- One operation: the cases. -/
namespace Go.Sx
open Go.RowKit

def NextIs (n : En) (r : R) (x : Next) : Prop := match r.v with | some v => x = .value (v.re n) | none => x = .skip

def Does (w0 : World) (kp : Nat → Prop) (hid : List Nat) (ro : Nat) (n : En) (m : Nat) (M : List SO) (r : R) (x : Next) (w' : World) : Prop :=
  ∃ n' : En, En.Agree M.length m n n' ∧ n'.ρ = n.ρ ∧ HR w0 kp hid ro n' m (r.heap M) w' ∧ NextIs n' r x ∧ ∀ v, r.v = some v → v.Ok (r.heap M).length m

/-- What is seen of all objects. -/
def Sub (h M : List SO) : Prop := M.length = h.length ∧ ∀ (i : Nat) (o : SO), h[i]? = some o → o.alive = true → M[i]? = some o

theorem Sub.refl (h : List SO) : Sub h h := ⟨rfl, fun _ _ hi _ => hi⟩

def Good (P : Program) (w0 : World) (kp : Nat → Prop) (hid : List Nat) (ro : Nat) (n : En) (m : Nat) (h : List SO) (s : Sem Next) (w : World) (r : R) : Prop :=
  ∃ x w', s.run P w = .ok x w' ∧ ∀ M, Sub h M → HR w0 kp hid ro n m M w → Does w0 kp hid ro n m M r x w'

section
variable {P : Program} {w0 w : World} {kp : Nat → Prop} {hid : List Nat} {ro : Nat} {n : En} {m : Nat} {h : List SO} {s : Sem Next}

theorem good_val {v : SV} (hr : s.run P w = .ok (.value (v.re n)) w) (hv : v.Ok h.length m) : Good P w0 kp hid ro n m h s w (R.val v) := by
  refine ⟨_, w, hr, fun M hM H => ⟨n, En.Agree.refl _ _ _, rfl, ?_, rfl, ?_⟩⟩
  · simpa [R.heap, R.val, setAll, setR_eq] using H
  · intro u hu; simp only [R.val, Option.some.injEq] at hu; subst hu
    simpa [R.heap, R.val, setAll, hM.1, setR_eq] using hv

theorem good_new {v : SV} {o : SO} {obj : Obj} {y : Value} (k : Nat) (hr : s.run P w = .ok (.value y) (w.alloc obj)) (hy : v.re (n.bind h.length w.heap.size k) = y) (hv : v.Ok (h.length + 1) m)
    (ho : OR (n.bind h.length w.heap.size k) (h.length + 1) m k o (some obj)) : Good P w0 kp hid ro n m h s w ⟨some v, [], [o]⟩ := by
  refine ⟨_, _, hr, fun M hM H => ⟨n.bind M.length w.heap.size k, En.bind_agree _ _ _ _ _, rfl, ?_, ?_, ?_⟩⟩
  · simp only [R.heap, setAll, setR_eq]
    refine H.alloc o obj k ?_
    rw [hM.1]; exact ho
  · simp only [NextIs, hM.1, hy]
  · intro u hu; simp only [Option.some.injEq] at hu; subst hu
    simpa [R.heap, setAll, hM.1, setR_eq] using hv

theorem good_upd {b : Nat} {o o' : SO} {obj : Obj} {w' : World} (hr : s.run P w = .ok .skip w') (hb : h[b]? = some o) (ha : o.alive = true) (hro : ro ≤ b) (ht : Turned w w' (n.ε b) obj)
    (ho : OR n h.length m (n.κ b) o' (some obj)) : Good P w0 kp hid ro n m h s w ⟨none, [(b, o')], []⟩ := by
  refine ⟨_, _, hr, fun M hM H => ⟨n, En.Agree.refl _ _ _, rfl, ?_, rfl, by simp⟩⟩
  simp only [R.heap, setAll, setR_eq, List.append_nil]
  refine H.set (hM.2 b o hb ha) ha hro ht o' ?_
  rw [hM.1]; exact ho

/-! ### Binary operations -/
theorem not_ne_zero {a : E} {Φ : Spec} {ρ : Nat → Int} (h : a.den Φ ρ = 0) : (a.den Φ ρ != 0) = false := by simp [h]

theorem den_eq_zero_of_cmp {op : BinOp} {k : K} {a b : E} {Φ : Spec} {ρ : Nat → Int} (h : (mkCmp op k a b).den Φ ρ = 0) : bcmp op (k.norm (a.den Φ ρ)) (k.norm (b.den Φ ρ)) = false := by
  rw [← mkCmp_bool]; simp [h]

theorem int_add_ops {op : BinOp} {k : IntKind} {x y : Int} (w : World) (hop : op = .add ∨ op = .sub ∨ op = .mul ∨ op = .and ∨ op = .or ∨ op = .xor ∨ op = .andNot) (t : TypeId) :
    (binOp op t (.int k x) (.int k y)).run P w = .ok (.int k (bop op k x y)) w := by
  rcases hop with rfl | rfl | rfl | rfl | rfl | rfl | rfl <;> simp [binOp, Op.intArith, Op.intBits, bop]

theorem int_cmp_ops {op : BinOp} {k : IntKind} {x y : Int} (w : World) (hop : op = .eql ∨ op = .neq ∨ op = .lss ∨ op = .leq ∨ op = .gtr ∨ op = .geq) (t : TypeId) :
    (binOp op t (.int k x) (.int k y)).run P w = .ok (.bool (bcmp op x y)) w := by
  rcases hop with rfl | rfl | rfl | rfl | rfl | rfl <;> simp [binOp, Op.intCmp, bcmp]

theorem eqGuard_int {op : BinOp} {t : TypeId} {x y : Operand} {k k' : IntKind} {a b : Int} (w : World) : (eqGuard op t x y (.int k a) (.int k' b)).run P w = .ok () w := by
  unfold eqGuard; cases op <;> simp

/-! ### Equality of values of numbers and bools -/
theorem kinds_ok {N : Nat} : ∀ {ks : List K} {cs : List SV} {l : List (K × E)}, kinds ks cs = some l → SV.OkL N m cs → E.underL m l = true
  | [], [], l, hk, _ => by simp only [kinds, Option.some.injEq] at hk; subst hk; rfl
  | .bool :: ks, .bool e :: r, l, hk, hok => by
    simp only [kinds, Option.map_eq_some_iff] at hk
    obtain ⟨l', h1, rfl⟩ := hk
    simp only [E.underL, Bool.and_eq_true]; exact ⟨hok.1, kinds_ok h1 hok.2⟩
  | .int k :: ks, .int k' e :: r, l, hk, hok => by
    simp only [kinds] at hk
    split at hk
    · simp only [Option.map_eq_some_iff] at hk
      obtain ⟨l', h1, rfl⟩ := hk
      simp only [E.underL, Bool.and_eq_true]; exact ⟨hok.1, kinds_ok h1 hok.2⟩
    · cases hk
  | [], _ :: _, l, hk, _ => by simp [kinds] at hk
  | .bool :: _, [], l, hk, _ => by simp [kinds] at hk
  | .int _ :: _, [], l, hk, _ => by simp [kinds] at hk
  | .bool :: _, .int .. :: _, l, hk, _ | .bool :: _, .ptr .. :: _, l, hk, _ | .bool :: _, .nilptr :: _, l, hk, _ | .bool :: _, .slice .. :: _, l, hk, _ | .bool :: _, .nilslice :: _, l, hk, _
  | .bool :: _, .etail .. :: _, l, hk, _ | .bool :: _, .map .. :: _, l, hk, _ | .bool :: _, .nilmap :: _, l, hk, _ | .bool :: _, .fn .. :: _, l, hk, _ | .bool :: _, .yield .. :: _, l, hk, _
  | .bool :: _, .nilfn :: _, l, hk, _ | .bool :: _, .agg .. :: _, l, hk, _ | .bool :: _, .tuple .. :: _, l, hk, _
  | .int _ :: _, .bool .. :: _, l, hk, _ | .int _ :: _, .ptr .. :: _, l, hk, _ | .int _ :: _, .nilptr :: _, l, hk, _ | .int _ :: _, .slice .. :: _, l, hk, _ | .int _ :: _, .nilslice :: _, l, hk, _
  | .int _ :: _, .etail .. :: _, l, hk, _ | .int _ :: _, .map .. :: _, l, hk, _ | .int _ :: _, .nilmap :: _, l, hk, _ | .int _ :: _, .fn .. :: _, l, hk, _ | .int _ :: _, .yield .. :: _, l, hk, _
  | .int _ :: _, .nilfn :: _, l, hk, _ | .int _ :: _, .agg .. :: _, l, hk, _ | .int _ :: _, .tuple .. :: _, l, hk, _ => by simp [kinds] at hk

/-- A leaf's value. -/
def leafV : K → Int → Value
  | .bool, x => .bool (x != 0)
  | .int k, x => .int k x

theorem kinds_re {ks : List K} : ∀ {cs : List SV} {l : List (K × E)}, kinds ks cs = some l → SV.reL n cs = (ks.zip (E.denL n.Φ n.ρ l)).map (fun p => leafV p.1 p.2) ∧ (E.denL n.Φ n.ρ l).length = ks.length := by
  induction ks with
  | nil =>
    intro cs l hk
    cases cs with
    | nil => simp only [kinds, Option.some.injEq] at hk; subst hk; exact ⟨rfl, rfl⟩
    | cons c r => simp [kinds] at hk
  | cons k ks ih =>
    intro cs l hk
    cases cs with
    | nil => cases k <;> simp [kinds] at hk
    | cons c r =>
      cases k with
      | bool =>
        cases c <;> simp only [kinds] at hk <;> first | (cases hk; done) | skip
        simp only [Option.map_eq_some_iff] at hk
        obtain ⟨l', h1, rfl⟩ := hk
        obtain ⟨h2, h3⟩ := ih h1
        refine ⟨?_, by simp [E.denL, h3]⟩
        simp only [SV.reL, E.denL, List.zip_cons_cons, List.map_cons, h2, leafV, SV.re]
        rw [norm_bool_ne]
      | int k =>
        cases c <;> simp only [kinds] at hk <;> first | (cases hk; done) | skip
        split at hk
        · rename_i e; subst e
          simp only [Option.map_eq_some_iff] at hk
          obtain ⟨l', h1, rfl⟩ := hk
          obtain ⟨h2, h3⟩ := ih h1
          refine ⟨?_, by simp [E.denL, h3]⟩
          simp only [SV.reL, E.denL, List.zip_cons_cons, List.map_cons, h2, leafV, SV.re]
          rfl
        · cases hk
end

/-- What a row of results stands for, where each is told by 'g'. -/
theorem resCells_re {n : En} {app : K → Nat → E} {g : Nat → Int} (hg : ∀ (k : K) (i : Nat), k.norm ((app k i).den n.Φ n.ρ) = k.norm (g i)) : ∀ (ks : List K) (i : Nat), SV.reL n (resCells app ks i) = (ks.zipIdx i).map fun (k, j) => leafV k (k.norm (g j))
  | [], _ => rfl
  | k :: ks, i => by
    simp only [resCells, SV.reL, List.zipIdx_cons, List.map_cons, resCells_re hg ks (i + 1)]
    congr 1
    have := hg k i
    cases k with
    | bool => simp only [leafOf, SV.re, leafV]; rw [← this, norm_bool_ne]
    | int k => simp only [leafOf, SV.re, leafV]; rw [← this]; rfl

theorem litVals_ok (Φ : Spec) (ρ : Nat → Int) : ∀ {l : List (K × E)} {vs : List Int}, litVals l = some vs → E.denL Φ ρ l = vs
  | [], vs, h => by simp only [litVals, Option.some.injEq] at h; subst h; rfl
  | (k, e) :: r, vs, h => by
    cases e <;> first | (simp [litVals] at h; done) | skip
    simp only [litVals, Option.map_eq_some_iff] at h
    obtain ⟨us, h1, rfl⟩ := h
    simp [E.denL, E.den, litVals_ok Φ ρ h1]

end Go.Sx
