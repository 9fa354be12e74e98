/- The evaluator over values without addresses, what it says of worlds, and its first steps. Conditions: none beyond the hypotheses of each theorem. -/
import GoSem.ClaimFollow
import GoSem.Core.Program
import Derived.Orders
import Derived.Calls
import Derived.Deep.MidRow
set_option linter.unusedSectionVars false
set_option linter.unusedVariables false
set_option linter.unusedSimpArgs false
namespace Go.Av

/-- values without addresses -/
inductive V where
  | junk
  | int (k : IntKind) (n : Int)
  | bool (b : Bool)
  | str (s : ByteArray)
  | sl (len : Nat) (full : Bool) (cs : List V)
  | own (t off len fin : Nat)
  | fp (cs : List V)
  | bp (t off : Nat)
  | ap (t off fin : Nat)
  | nilp
  | mp (t : Nat)
  | nilm
  | fn (f : FuncId) (caps : List V)
  | nilf
  | ifc (t : TypeId) (v : V)
  | nili
  | agg (cs : List V)
  | tup (vs : List V)
  deriving Inhabited

/-- what lies in memory under a number of its own -/
inductive Ob where
  | box (cs : List V)
  | arr (k : Nat) (st : Bool) (me : Nat) (cs : List V)
  | map (es : List (V × V))
  | hole
  deriving Inhabited

abbrev Heap := List Ob

inductive TD where
  | int (k : IntKind) | bool | str | ptr | slice (e : TypeId) | map (k e : TypeId) | struct (fs : List (Nat × TypeId)) | func | iface | tuple | other
  deriving Inhabited

structure TI where
  agg : Bool
  size : Nat
  bytes : Nat
  zero : List V
  d : TD
  deriving Inhabited

inductive Ex where
  | normal
  | exit (id : Nat)
  | ret
  | panic (v : V)
  deriving Inhabited

structure St where
  tm : List V
  H : Heap
  dirty : List Nat
  deriving Inhabited

/-- what an operation does -/
inductive Dsc where
  | val (v : V)
  | read (t : Nat) (f : Ob → Option V)
  | new (o : Ob) (v : Nat → V)
  | newFrom (s : Nat) (f : Ob → Option Ob) (v : Nat → V)
  | upd (t : Nat) (f : Ob → Option Ob) (v : V)
  | updFrom (t s : Nat) (f : Ob → Ob → Option Ob) (v : V)
  | call (g : FuncId) (args : List V)
  | pan (v : V)

structure Cfg where
  T : TypeId → Option TI
  F : FuncId → Option Func
  keep : FuncId → Bool
  st : FuncId → Nat → Bool
  keyed : TypeId → V → Bool
  prim : FuncId → Option (List V → Option Dsc)
  marked : FuncId
  guard : FuncId
  fault : TypeId

def V.cells : V → List V
  | .agg cs => cs
  | v => [v]

/-- a value of one cell -/
def V.one : V → Bool
  | .agg _ | .tup _ | .junk => false
  | _ => true

/-- a value that fills a variable -/
def V.solid : V → Bool
  | .agg cs => cs.all V.one
  | v => v.one

def ofVal0 : Value → Option V
  | .int k n => some (.int k n)
  | .bool b => some (.bool b)
  | .string s => some (.str s)
  | .pointer none => some .nilp
  | .slice none 0 0 => some (.sl 0 true [])
  | .map none => some .nilm
  | .nilFunc => some .nilf
  | .nilIface => some .nili
  | _ => none
def ofVal (v : Value) : Option V :=
  match v with
  | .agg cs => (cs.toList.mapM ofVal0).map .agg
  | v => ofVal0 v

def ov (tm : List V) : Operand → Option V
  | .tmp t => tm[t]?
  | .const v => ofVal v
  | .func f => some (.fn f [])
  | .global _ => none

def strEq (a b : ByteArray) : Bool := a.data.toList == b.data.toList

def keyEqs : List V → List V → Option Bool
  | [], [] => some true
  | .int j a :: x, .int k b :: y => if j = k then (if a = b then keyEqs x y else (keyEqs x y).map fun _ => false) else none
  | .str a :: x, .str b :: y => if strEq a b then keyEqs x y else (keyEqs x y).map fun _ => false
  | _, _ => none
def V.keyEq : V → V → Option Bool
  | .int j a, .int k b => if j = k then some (decide (a = b)) else none
  | .str a, .str b => some (strEq a b)
  | .bool a, .bool b => some (a == b)
  | .agg a, .agg b => keyEqs a b
  | _, _ => none

/-- another key -/
def V.off (k : V) (p : V × V) : Bool := match k.keyEq p.1 with
  | some false => true
  | _ => false

def mapFind (k : V) : List (V × V) → Option (Option V)
  | [] => some none
  | p :: es => match k.keyEq p.1 with
    | none => none
    | some true => if es.all k.off then some (some p.2) else none
    | some false => mapFind k es
def mapPut (k v : V) : List (V × V) → Option (List (V × V))
  | [] => some [(k, v)]
  | p :: es => match k.keyEq p.1 with
    | none => none
    | some true => if es.all k.off then some ((k, v) :: es) else none
    | some false => (mapPut k v es).map (p :: ·)

/-- the cells of an array that a slice of it has -/
def arrCells (off len fin : Nat) : Ob → Option (Nat × List V)
  | .arr k _ me cs => if off + len ≤ fin ∧ fin * k ≤ cs.length ∧ me ≤ fin then some (k, (cs.drop (off * k)).take (len * k)) else none
  | _ => none

/-- the cells that a slice has -/
def slCells (H : Heap) : V → Option (Nat × List V)
  | .sl len _ cs => some (len, cs)
  | .own t off len fin => (H[t]?).bind fun o => (arrCells off len fin o).map fun p => (len, p.2)
  | _ => none

mutual
/-- a value without objects -/
def V.flat : V → Bool
  | .sl _ _ cs => V.flats cs
  | .agg cs => V.flats cs
  | .tup cs => V.flats cs
  | .fn _ cs => V.flats cs
  | .ifc _ v => V.flat v
  | .own _ _ _ _ | .bp _ _ | .ap _ _ _ | .mp _ | .fp _ | .junk => false
  | _ => true
def V.flats : List V → Bool
  | [] => true
  | v :: l => V.flat v && V.flats l
end

/-- a value without what the call itself made ('all': without anything in the heap) -/
def strip (H : Heap) (n0 : Nat) (all : Bool) : Nat → V → Option V
  | 0, _ => none
  | n + 1, v => if v.flat then some v else match v with
    | .sl len full cs => (cs.mapM (strip H n0 all n)).map (.sl len full)
    | .own t off len fin => if t < n0 ∧ all = false then some v else match H[t]? with
      | some (.arr k st me cs) => if all = true ∧ st = true then none else
        if off + len ≤ fin ∧ fin * k ≤ cs.length ∧ me ≤ fin then (((cs.drop (off * k)).take (len * k)).mapM (strip H n0 all n)).map (.sl len false) else none
      | _ => none
    | .agg cs => (cs.mapM (strip H n0 all n)).map .agg
    | .tup cs => (cs.mapM (strip H n0 all n)).map .tup
    | .fn f cs => (cs.mapM (strip H n0 all n)).map (.fn f)
    | .ifc t x => (strip H n0 all n x).map (.ifc t)
    | .bp t _ | .ap t _ _ | .mp t => if t < n0 ∧ all = false then some v else none
    | .fp _ | .junk => none
    | v => some v

def splice (cs : List V) (off : Nat) (vs : List V) : Option (List V) :=
  if off + vs.length ≤ cs.length then some (cs.take off ++ (vs ++ cs.drop (off + vs.length))) else none

def part (i : TI) (cs : List V) (off : Nat) : Option V :=
  if off + i.size ≤ cs.length then (if i.agg then some (.agg ((cs.drop off).take i.size)) else if i.size = 1 then cs[off]? else none) else none

def loadD (i : TI) : V → Option Dsc
  | .fp cs => (part i cs 0).map .val
  | .bp t off => some (.read t fun | .box cs => part i cs off | _ => none)
  | .ap t off fin => some (.read t fun | .arr k _ me cs => if off + i.size ≤ fin * k ∧ fin * k ≤ cs.length ∧ me ≤ fin then part i cs off else none | _ => none)
  | _ => none

def storeD (i : TI) (a v : V) : Option Dsc :=
  if v.solid ∧ v.cells.length = i.size then
    match a with
    | .bp t off => some (.upd t (fun | .box cs => (splice cs off v.cells).map .box | _ => none) .junk)
    | .ap t off fin => some (.upd t (fun | .arr k st me cs => if st = true ∧ fin * k = cs.length ∧ me ≤ fin then (splice cs off v.cells).map (.arr k st fin) else none | _ => none) .junk)
    | _ => none
  else none

def fillParts (place : Nat → Option (Nat × Nat)) (cs : List V) : List (Nat × V) → Option (List V)
  | [] => some cs
  | (i, v) :: rest => match place i with
    | none => none
    | some (off, size) => if v.solid ∧ v.cells.length = size then (splice cs off v.cells).bind fun cs => fillParts place cs rest else none

def rep (z : List V) : Nat → List V
  | 0 => []
  | n + 1 => z ++ rep z n

def binInt (op : BinOp) (k : IntKind) (a b : Int) : Option V :=
  match op with
  | .add => some (.int k (k.wrap (a + b)))
  | .sub => some (.int k (k.wrap (a - b)))
  | .mul => some (.int k (k.wrap (a * b)))
  | .eql => some (.bool (a == b))
  | .neq => some (.bool (a != b))
  | .lss => some (.bool (decide (a < b)))
  | .leq => some (.bool (decide (a ≤ b)))
  | .gtr => some (.bool (decide (a > b)))
  | .geq => some (.bool (decide (a ≥ b)))
  | _ => none

def roomy : Nat := 140737488355328

def binOp (op : BinOp) (x y : V) : Option V :=
  match x, y with
  | .int k a, .int k' b => if k = k' then binInt op k a b else none
  | .str a, .str b => match op with
    | .add => if a.size + b.size ≤ roomy then some (.str (a ++ b)) else none
    | .eql => some (.bool (strEq a b))
    | .neq => some (.bool !(strEq a b))
    | _ => none
  | .bool a, .bool b => match op with
    | .eql => some (.bool (a == b))
    | .neq => some (.bool !(a == b))
    | _ => none
  | _, _ => none

/-- the new cells of an append -/
def appendD (C : Cfg) (fid dst : Nat) (t : TypeId) (s x : V) : Option Dsc :=
  match C.T t with
  | some { d := .slice e, .. } => match C.T e with
    | some i =>
      if i.size = 0 then none else
      match s with
      | .sl len true cs => match x with
        | .sl n _ new =>
          if n = 0 then some (.val (.sl len true cs)) else
          if (len + n) * i.bytes ≤ roomy ∧ len + n ≤ roomy ∧ cs.length = len * i.size ∧ new.length = n * i.size then
            some (.new (.arr i.size (C.st fid dst) 0 (cs ++ new)) fun id => .own id 0 (len + n) (len + n)) else none
        | .own u off n fin =>
          if (len + n) * i.bytes ≤ roomy ∧ len + n ≤ roomy ∧ 0 < n ∧ cs.length = len * i.size then
            some (.newFrom u (fun o => (arrCells off n fin o).bind fun p => if p.1 = i.size then some (.arr i.size (C.st fid dst) 0 (cs ++ p.2)) else none) fun id => .own id 0 (len + n) (len + n)) else none
        | _ => none
      | .own t off len fin => match x with
        | .sl n _ new =>
          if (fin + n) * i.bytes ≤ roomy ∧ fin + n ≤ roomy ∧ off + len = fin ∧ off = 0 ∧ new.length = n * i.size ∧ new.all V.one then
            some (.upd t (fun | .arr k st me cs => if k = i.size ∧ fin * k = cs.length ∧ me ≤ fin then some (.arr k st me (cs ++ new)) else none | _ => none) (.own t off (len + n) (fin + n))) else none
        | .own u off' n fin' =>
          if (fin + n) * i.bytes ≤ roomy ∧ fin + n ≤ roomy ∧ off + len = fin ∧ off = 0 ∧ t ≠ u then
            some (.updFrom t u (fun o p => match o with
              | .arr k st me cs => (arrCells off' n fin' p).bind fun q => if k = i.size ∧ q.1 = i.size ∧ fin * k = cs.length ∧ me ≤ fin ∧ q.2.all V.one then some (.arr k st me (cs ++ q.2)) else none
              | _ => none) (.own t off (len + n) (fin + n))) else none
        | _ => none
      | _ => none
    | none => none
  | _ => none

def boundD (ρ : Operand → Option V) (o : Option Operand) (d : Nat) : Option Nat :=
  match o with
  | none => some d
  | some o => match ρ o with
    | some (.int _ n) => if 0 ≤ n then some n.toNat else none
    | _ => none

def evalParts (ρ : Operand → Option V) (ps : Array (Nat × Operand)) : Option (List (Nat × V)) :=
  ps.toList.mapM fun p => (ρ p.2).map fun v => (p.1, v)

/-- a string's bytes as cells, and cells as a string's bytes -/
def strCells (s : ByteArray) : List V := s.data.toList.map fun b => .int .u8 b.toNat
def cellsStr : List V → Option (List UInt8)
  | [] => some []
  | .int .u8 n :: l => (cellsStr l).map (UInt8.ofNat n.toNat :: ·)
  | _ => none

/-- what an operation does, by its operands' values -/
def evDsc (C : Cfg) (fid : FuncId) (o : Oper) (ρ : Operand → Option V) : Option Dsc :=
  match o.op with
  | .move x | .assign x => (ρ x).map .val
  | .pick c a b => match ρ c with
    | some (.bool true) => (ρ a).map .val
    | some (.bool false) => (ρ b).map .val
    | _ => none
  | .alloc t => (C.T t).map fun i => .new (.box i.zero) fun id => .bp id 0
  | .box t x => (ρ x).bind fun v => (C.T t).bind fun i => if v.solid ∧ v.cells.length = i.size then some (.new (.box v.cells) fun id => .bp id 0) else none
  | .build t ps => match C.T t with
    | some { d := .struct fs, zero, .. } =>
      (fs.mapM fun p => (C.T p.2).map fun j => (p.1, j.size)).bind fun places => (evalParts ρ ps).bind fun vs =>
      (fillParts (places[·]?) zero vs).map fun cs => .val (.agg cs)
    | _ => none
  | .buildSlice t len ps => match C.T t with
    | some { d := .slice el, .. } => (C.T el).bind fun i => (evalParts ρ ps).bind fun vs =>
      if i.size = 0 ∨ len * i.size > 16777216 then none else
      (fillParts (fun j => some (j * i.size, i.size)) (rep i.zero len) vs).map fun cs =>
      if C.st fid (o.dst.getD 0) then .new (.arr i.size true 0 cs) fun id => .own id 0 len len
      else .val (.sl len true cs)
    | _ => none
  | .load t a => (ρ a).bind fun a => (C.T t).bind fun i => loadD i a
  | .store t a x => (ρ a).bind fun a => (ρ x).bind fun v => (C.T t).bind fun i => storeD i a v
  | .nilCheck x => (ρ x).bind fun v => match v with
    | .bp _ _ | .ap _ _ _ | .fp _ => some (.val v)
    | _ => none
  | .binOp op t x y _ => (ρ x).bind fun x => (ρ y).bind fun y => (binOp op x y).bind fun v => match x with
    | .bool _ => match C.T t with
      | some { d := .bool, .. } => some (.val v)
      | _ => none
    | _ => some (.val v)
  | .unOp op _ x => match op, ρ x with
    | .not, some (.bool b) => some (.val (.bool !b))
    | _, _ => none
  | .convert s d x => (C.T s).bind fun j => (C.T d).bind fun i => match i.d, ρ x with
    | .int k, some (.int _ n) => some (.val (.int k (k.wrap n)))
    | .slice e, some (.str b) => match C.T e with
      | some { d := .int .u8, .. } => some (.new (.arr 1 false 0 (strCells b)) fun id => .own id 0 b.size b.size)
      | _ => none
    | .str, some (.own t off len fin) => match j.d with
      | .slice e => match C.T e with
        | some { d := .int .u8, .. } => some (.read t fun o => (arrCells off len fin o).bind fun p => if p.1 = 1 ∧ p.2.length = len then (cellsStr p.2).map fun l => .str ⟨l.toArray⟩ else none)
        | _ => none
      | _ => none
    | _, _ => none
  | .makeInterface t x => (ρ x).bind fun v => (C.T t).bind fun i => match i.d with
    | .iface => none
    | _ => some (.val (.ifc t v))
  | .makeFunc f first caps => match f with
    | .func f => if first.isEmpty then (caps.toList.mapM ρ).map fun vs => .val (.fn f vs) else none
    | _ => none
  | .makeMap _ r => if r.isNone then some (.new (.map []) fun id => .mp id) else none
  | .makeSlice t len cap => match C.T t with
    | some { d := .slice el, .. } => (C.T el).bind fun i => match ρ len, ρ cap with
      | some (.int .i64 n), some (.int .i64 c) =>
        if 0 ≤ n ∧ n = c ∧ c ≤ 9223372036854775807 ∧ c.toNat * i.bytes ≤ roomy ∧ i.size ≠ 0 then some (.new (.arr i.size true 0 (rep i.zero n.toNat)) fun id => .own id 0 n.toNat n.toNat) else none
      | _, _ => none
    | _ => none
  | .slice t x l h m => (ρ x).bind fun x => match x with
    | .sl len full cs => match C.T t with
      | some { d := .slice el, .. } => (C.T el).bind fun i => (boundD ρ h len).bind fun h' => (boundD ρ l 0).bind fun l => (boundD ρ m h').bind fun m' =>
        if l ≤ h' ∧ h' ≤ len ∧ h' ≤ m' ∧ m' ≤ len ∧ cs.length = len * i.size ∧ (m = none ∨ h.isSome) then
          some (.val (.sl (h' - l) (match m with | some _ => m' == h' | none => full && h' == len) ((cs.drop (l * i.size)).take ((h' - l) * i.size)))) else none
      | _ => none
    | .own id off len fin => match l, m with
      | none, none => match C.T t with
        | some { d := .slice el, .. } => (C.T el).bind fun _ => (boundD ρ h len).bind fun h' => if h' ≤ len ∧ h.isSome then some (.read id fun | .arr _ _ me _ => if me ≤ fin then some (.own id off h' fin) else none | _ => none) else none
        | _ => none
      | _, _ => none
    | _ => none
  | .fieldAddr t x j => match C.T t with
    | some { d := .struct fs, .. } => (fs[j]?).bind fun p => (C.T p.2).bind fun i => (ρ x).bind fun v =>
      if i.size = 0 then none else match v with
      | .bp id o => some (.val (.bp id (o + p.1)))
      | .ap id o f => some (.val (.ap id (o + p.1) f))
      | .fp cs => some (.val (.fp (cs.drop p.1)))
      | _ => none
    | _ => none
  | .field t x j => match C.T t with
    | some { d := .struct fs, .. } => (fs[j]?).bind fun p => (C.T p.2).bind fun i => match ρ x with
      | some (.agg cs) => (part i cs p.1).map .val
      | _ => none
    | _ => none
  | .indexAddr t x j => match C.T t with
    | some { d := .slice el, .. } => (C.T el).bind fun i => match ρ j, ρ x with
      | some (.int _ n), some (.sl len _ cs) => if 0 ≤ n ∧ n < len then some (.val (.fp (cs.drop (n.toNat * i.size)))) else none
      | some (.int _ n), some (.own id off len fin) => if 0 ≤ n ∧ n < len ∧ off + len ≤ fin then
          some (.read id fun | .arr k _ me _ => if k = i.size ∧ me ≤ fin then some (.ap id ((off + n.toNat) * i.size) fin) else none | _ => none) else none
      | _, _ => none
    | _ => none
  | .index t x j => (C.T t).bind fun i => match i.d, ρ x, ρ j with
    | .str, some (.str s), some (.int _ n) => if 0 ≤ n then (s[n.toNat]?).map fun b => .val (.int .u8 b.toNat) else none
    | _, _, _ => none
  | .lookup t x j ok => match C.T t with
    | some { d := .map kt el, .. } => (C.T el).bind fun i => (ρ j).bind fun k => match ρ x with
      | some (.mp id) => some (.read id fun
        | .map es => if i.agg = false ∧ C.keyed kt k = true ∧ (es.all fun p => C.keyed kt p.1) = true then (mapFind k es).bind fun r => match i.zero with
          | [z] => some (if ok then .tup [r.getD z, .bool r.isSome] else r.getD z)
          | _ => none
          else none
        | _ => none)
      | _ => none
    | _ => none
  | .mapUpdate t m k v => match C.T t with
    | some { d := .map kt _, .. } => (ρ m).bind fun m => (ρ k).bind fun k => (ρ v).bind fun v => match m with
      | .mp id => some (.upd id (fun
        | .map es => if C.keyed kt k = true ∧ (es.all fun p => C.keyed kt p.1) = true then (mapPut k v es).map .map else none
        | _ => none) .junk)
      | _ => none
    | _ => none
  | .extract x j => match ρ x with
    | some (.tup vs) => (vs[j]?).map .val
    | _ => none
  | .panic x => match ρ x with
    | some (.ifc t v) => some (.pan (.ifc t v))
    | _ => none
  | .call c => match c.callee with
    | .builtin b => (c.args.toList.mapM ρ).bind fun args => match b, args with
      | .len, [.str s] => match (c.argTypes[0]?).bind C.T with
        | some { d := .str, .. } => some (.val (.int .i64 s.size))
        | _ => none
      | .len, [.sl n _ _] => match (c.argTypes[0]?).bind C.T with
        | some { d := .slice _, .. } => some (.val (.int .i64 n))
        | _ => none
      | .len, [.own _ _ n _] => match (c.argTypes[0]?).bind C.T with
        | some { d := .slice _, .. } => some (.val (.int .i64 n))
        | _ => none
      | .len, [.mp id] => match (c.argTypes[0]?).bind C.T with
        | some { d := .map _ _, .. } => some (.read id fun | .map es => some (.int .i64 es.length) | _ => none)
        | _ => none
      | .max, [.int k a, .int k' b] => if k = k' then some (.val (.int k (if b > a then b else a))) else none
      | .append, [s, x] => match c.argTypes.toList with
        | [t, t'] => if t = t' then appendD C fid (o.dst.getD 0) t s x else none
        | _ => none
      | _, _ => none
    | .value f => (ρ f).bind fun f => match f with
      | .fn g caps => (c.args.toList.mapM ρ).bind fun vs => match C.prim g with
        | some p => p (vs ++ caps)
        | none => if ((C.F g).bind (·.body)).isSome then some (.call g (vs ++ caps)) else none
      | _ => none
    | .invoke _ _ => none
  | _ => none

/-- what a call comes to: its value, was it thrown, the heap, what was written -/
structure CR where
  v : V
  pan : Bool
  H : Heap
  d : List Nat

abbrev Ent := FuncId → List V → Heap → Option CR

abbrev Rec := Code → St → Option (Ex × St)

def partH (i : TI) (H : Heap) (a : V) : Option V :=
  match loadD i a with
  | some (.val v) => some v
  | some (.read t f) => (H[t]?).bind f
  | _ => none

def readRes (C : Cfg) (tm : List V) (H : Heap) : ResultVar → Option V
  | .tmp t => tm[t]?
  | .cell a t => (C.T t).bind fun i => (tm[a]?).bind fun v => partH i H v

def results (C : Cfg) (f : Func) (σ : St) : Option V :=
  match f.results.toList with
  | [r] => readRes C σ.tm σ.H r
  | rs => (rs.mapM (readRes C σ.tm σ.H)).map .tup

def sf : Nat := 1000

def enter (C : Cfg) (rec : FuncId → Rec) : Ent := fun f args H =>
  match C.F f with
  | some fn => match fn.body with
    | some c => match rec f c { tm := args ++ List.replicate (fn.ntmps - args.length) .junk, H, dirty := [] } with
      | some (.panic v, σ) => some ⟨v, true, σ.H, σ.dirty⟩
      | some (.normal, σ) | some (.ret, σ) => (results C fn σ).map fun v => ⟨v, false, σ.H, σ.dirty⟩
      | _ => none
    | none => none
  | none => none

/-- how a region is read: what came, and whether the heap stood still -/
inductive Cls where
  | pure
  | reads (t : Nat)
  | pcall
  | loc (t : Nat)
  | add
  | eff (d : List Nat)

structure OR where
  v : V
  pan : Bool
  H : Heap
  cls : Cls

def callF (C : Cfg) (ent : Ent) (g : FuncId) (args : List V) (H : Heap) : Option OR :=
  if g = C.guard then match args with
    | [.fn g caps] => (ent g caps H).bind fun r =>
      if r.pan then match r.v with
        | .ifc t (.agg [.int .i64 n]) => if t = C.fault then some ⟨.int .i64 n, false, r.H, .eff r.d⟩ else none
        | _ => none
      else some ⟨.int .i64 0, false, r.H, .eff r.d⟩
    | _ => none
  else if C.keep g then (ent g args H).map fun r => ⟨r.v, r.pan, r.H, .eff r.d⟩
  else match args.mapM (strip H 0 true sf) with
    | some args' => (ent g args' []).bind fun r => match strip r.H 0 false sf r.v with
      | some v => some ⟨v, r.pan, H, if (args.mapM (strip [] 0 true sf)).isSome then .pure else .pcall⟩
      | none => (ent g args H).map fun r => ⟨r.v, r.pan, r.H, .eff r.d⟩
    | none => (ent g args H).bind fun r =>
      let d := r.d.filter (· < H.length)
      match d with
      | [] => match strip r.H H.length false sf r.v with
        | some v => some ⟨v, r.pan, H, .pcall⟩
        | none => some ⟨r.v, r.pan, r.H, .eff []⟩
      | d => some ⟨r.v, r.pan, r.H, .eff d⟩

def runDsc (C : Cfg) (ent : Ent) (H : Heap) : Dsc → Option OR
  | .val v => some ⟨v, false, H, .pure⟩
  | .read t f => ((H[t]?).bind f).map fun v => ⟨v, false, H, .reads t⟩
  | .new o v => some ⟨v H.length, false, H ++ [o], .add⟩
  | .newFrom s f v => ((H[s]?).bind f).map fun o => ⟨v H.length, false, H ++ [o], .eff []⟩
  | .upd t f v => ((H[t]?).bind f).map fun o => ⟨v, false, H.set t o, .loc t⟩
  | .updFrom t s f v => (H[t]?).bind fun a => (H[s]?).bind fun b => (f a b).map fun o => ⟨v, false, H.set t o, .eff [t]⟩
  | .call g args => callF C ent g args H
  | .pan v => some ⟨v, true, H, .pure⟩

def putTm (tm : List V) (d : Option Nat) (v : V) : List V := match d with | some d => tm.set d v | none => tm

def yld (ops : Array Oper) (tm : List V) (j : Nat) : Option Bool :=
  match ((ops[j]?).bind (·.dst)).bind (tm[·]?) with
  | some (.bool b) => some b
  | _ => none

def Cls.dirty : Cls → List Nat
  | .eff d => d
  | .loc t => [t]
  | _ => []

def isAlloc (o : Oper) : Bool := match o.op with | .alloc _ => true | _ => false
def isCall (o : Oper) : Bool := match o.op with
  | .call k => match k.callee with
    | .value _ => true
    | _ => false
  | _ => false

/-- a variable laid in a region that draws its order has a number of its own, by its place -/
def atPlace (draw : Bool) (o : Oper) (id : Nat) (d : Dsc) : Dsc :=
  match d with
  | .call g as => if isCall o then .call g as else .read 0 fun _ => none
  | .new b v => if draw && isAlloc o then .upd id (fun | .hole => some b | _ => none) (v id) else .new b v
  | d => d

/-- a region in the order of its text, with the class of each operation and how many objects there were ahead of it -/
def evOps (C : Cfg) (ent : Ent) (fid : FuncId) (draw : Bool) (ops : Array Oper) : Nat → List Oper → St → Option (Ex × St × List (Cls × Nat))
  | _, [], σ => some (.normal, σ, [])
  | id, o :: rest, σ =>
    if Region.wanted o (yld ops σ.tm) then
      match (evDsc C fid o (ov σ.tm)).bind fun d => runDsc C ent σ.H (atPlace draw o id d) with
      | none => none
      | some r => if r.pan then some (.panic r.v, ⟨σ.tm, r.H, r.cls.dirty ++ σ.dirty⟩, [(r.cls, σ.H.length)]) else
        (evOps C ent fid draw ops (if isAlloc o then id + 1 else id) rest ⟨putTm σ.tm o.dst r.v, r.H, r.cls.dirty ++ σ.dirty⟩).map fun q => (q.1, q.2.1, (r.cls, σ.H.length) :: q.2.2)
    else (evOps C ent fid draw ops (if isAlloc o then id + 1 else id) rest { σ with tm := putTm σ.tm o.dst .junk }).map fun q => (q.1, q.2.1, (.pure, σ.H.length) :: q.2.2)

def holes (draw : Bool) (ops : Array Oper) (H : Heap) : Heap :=
  if draw then H ++ List.replicate (ops.toList.filter isAlloc).length .hole else H

/-- may two operations, the first ahead of the second in the text, stand in either order -/
def Cls.swaps : Cls × Nat → Cls × Nat → Bool
  | (.pure, _), _ | _, (.pure, _) => true
  | (.reads t, _), (.eff d, _) => !d.contains t
  | (.eff d, n), (.reads t, _) => !d.contains t && decide (t < n)
  | (.eff _, _), _ | _, (.eff _, _) => false
  | (.loc t, _), (.reads u, _) | (.reads u, _), (.loc t, _) | (.loc t, _), (.loc u, _) => t != u
  | (.add, n), (.reads t, _) | (.reads t, _), (.add, n) | (.add, n), (.loc t, _) | (.loc t, _), (.add, n) => decide (t < n)
  | (.loc _, _), (.pcall, _) | (.pcall, _), (.loc _, _) | (.add, _), (.pcall, _) | (.pcall, _), (.add, _) | (.add, _), (.add, _) => false
  | _, _ => true

/-- is operation i ahead of operation j in every order -/
def ahead (b : Array Nat) (i j : Nat) : Bool := (b.getD j 0).testBit i

/-- two operations whose slots do not meet -/
def slotsApart (ops : Array Oper) (x y : Oper) : Bool := x.apart ops y

def okPair (ops : Array Oper) (b : Array Nat) (tr : List (Cls × Nat)) (i j : Nat) : Bool :=
  ahead b i j || (match ops[i]?, ops[j]?, tr[i]?, tr[j]? with
    | some x, some y, some p, some q => slotsApart ops x y && Cls.swaps p q
    | _, _, _, _ => false)

def Cls.still : Cls × Nat → Bool
  | (.pure, _) | (.reads _, _) | (.pcall, _) => true
  | _ => false

/-- does a region come to the same in every order; where the last operation throws, what is not ahead of it writes nothing, and all that is behind it in the text waits for it -/
def okDraw (ops : Array Oper) (tr : List (Cls × Nat)) (pan : Bool) : Bool :=
  let b := Region.before ops
  ((List.range tr.length).all fun j => (List.range j).all fun i => okPair ops b tr i j) &&
  ((List.range ops.size).all fun i => match ops[i]? with | some o => o.after.all fun e => !Region.binds .any e || decide (e.on < i) | none => true) &&
  Region.noSelect ops &&
  (if pan then
    let p := tr.length - 1
    decide (0 < tr.length) && ((List.range p).all fun i => ahead b i p || (match tr[i]? with | some q => Cls.still q | none => false)) &&
    ((List.range ops.size).all fun j => decide (j ≤ p) || ahead b p j)
  else decide (tr.length = ops.size))

def Ex.isPanic : Ex → Bool
  | .panic _ => true
  | _ => false

/-- code without a range over a function -/
def noRange : Code → Bool
  | .seq a b => noRange a && noRange b
  | .cond _ a b => noRange a && noRange b
  | .block _ b => noRange b
  | .loop b => noRange b
  | .rangeFunc _ _ _ _ => false
  | _ => true

/-- the rounds of a range over marked: each one begins with the variables as they were ahead of the statement -/
def marks (rec : Rec) (p : Nat) (asg b : Code) (tm : List V) : List V → Nat → St → Option (Ex × St)
  | [], _, σ => some (.normal, { σ with tm := tm })
  | .bool true :: cs, i, σ =>
    match rec asg { σ with tm := tm.set p (.int .i64 i) } with
    | some (.normal, σ) => match rec b σ with
      | some (.normal, σ) => marks rec p asg b tm cs (i + 1) σ
      | some (.ret, σ) => some (.ret, { σ with tm := tm })
      | some (.exit id, σ) => some (.exit id, { σ with tm := tm })
      | _ => none
    | _ => none
  | .bool false :: cs, i, σ => marks rec p asg b tm cs (i + 1) σ
  | _, _, _ => none

/-- one step of the evaluator -/
def stepE (C : Cfg) (rec : FuncId → Rec) (fid : FuncId) : Rec := fun c σ =>
  match c with
  | .skip => some (.normal, σ)
  | .region _ ops draw =>
    let ent := enter C rec
    (evOps C ent fid draw ops σ.H.length ops.toList { σ with H := holes draw ops σ.H }).bind fun q =>
      if draw = false ∨ okDraw ops q.2.2 q.1.isPanic = true then some (q.1, q.2.1) else none
  | .seq a b => match rec fid a σ with
    | some (.normal, σ) => rec fid b σ
    | r => r
  | .cond x a b => match ov σ.tm x with
    | some (.bool true) => rec fid a σ
    | some (.bool false) => rec fid b σ
    | _ => none
  | .block id b => match rec fid b σ with
    | some (.exit i, σ) => if i = id then some (.normal, σ) else some (.exit i, σ)
    | r => r
  | .loop b => match rec fid b σ with
    | some (.normal, σ) => rec fid (.loop b) σ
    | r => r
  | .exit id => some (.exit id, σ)
  | .ret => some (.ret, σ)
  | .rangeFunc f ps asg b => match ov σ.tm f, ps.toList with
    | some (.fn g [.bp t 0]), [p] =>
      if g = C.marked ∧ noRange asg = true ∧ noRange b = true then match σ.H[t]? with
        | some (.box [l]) => match strip σ.H 0 true sf l with
          | some (.sl n _ cs) => if cs.length = n ∧ n ≤ roomy then marks (rec fid) p asg b σ.tm cs 0 σ else none
          | _ => none
        | _ => none
      else none
    | _, _ => none
  | _ => none

def ev (C : Cfg) : Nat → FuncId → Rec
  | 0 => fun _ _ _ => none
  | n + 1 => stepE C (ev C n)
end Go.Av
namespace Go.Av

structure Ctx where
  base : Nat
  low : Nat
  fz : Nat → Nat → Prop
  ρ : Nat → Nat

/-- a cell that nothing changes any more -/
def Ctx.frz (c : Ctx) (b o : Nat) : Prop := b < c.base ∨ c.fz b o

/-- the cells of an array from p on, n of them, lie at (b, o) too -/
def Link (c : Ctx) (w : World) (t p n b o : Nat) : Prop :=
  (b = c.ρ t ∧ o = p) ∨ ∀ i, i < n → c.frz b (o + i) ∧ w.cell? ⟨b, o + i, none⟩ = w.cell? ⟨c.ρ t, p + i, none⟩

/-- where the cells of an array from p on lie, seen from a slice that ends at cell f of n -/
def Pos (c : Ctx) (w : World) (t p f n b o : Nat) : Prop := Link c w t p (f - p) b o ∧ (f = n → b = c.ρ t ∧ o = p)

/-- how many cells a block has -/
def room (w : World) (b : Nat) : Nat := match w.heap[b]? with
  | some (.cells a _ _) => a.size
  | _ => 0

def ROwn (c : Ctx) (H : Heap) (w : World) (t off len fin : Nat) (v : Value) : Prop :=
  (∃ a m, v = .slice a len m ∧ len ≤ m) ∧ ∃ k st me cs, H[t]? = some (.arr k st me cs) ∧ fin * k ≤ cs.length ∧ (me ≤ fin → ∃ b o cap, v = .slice (some ⟨b, o, none⟩) len cap ∧ len ≤ cap ∧ off + len ≤ fin ∧
    Pos c w t (off * k) (fin * k) cs.length b o ∧ (fin * k = cs.length → (off + cap) * k = room w (c.ρ t)))

def RAp (c : Ctx) (H : Heap) (w : World) (t off fin : Nat) (v : Value) : Prop :=
  (∃ a, v = .pointer (some a)) ∧ ∃ k st me cs, H[t]? = some (.arr k st me cs) ∧ fin * k ≤ cs.length ∧ (me ≤ fin → ∃ b o, v = .pointer (some ⟨b, o, none⟩) ∧ Pos c w t off (fin * k) cs.length b o)

mutual
def RV (c : Ctx) (H : Heap) (w : World) : V → Value → Prop
  | .junk, v => v = undef
  | .int k n, v => v = .int k n
  | .bool b, v => v = .bool b
  | .str s, v => v = .string s
  | .sl len full cs, v => ∃ a cap, v = .slice a len cap ∧ len ≤ cap ∧ (full = true → cap = len) ∧ (a = none → len = 0 ∧ cs = []) ∧ ∀ x, a = some x → (0 < len → x.spot = none) ∧ RVat c H w x.block x.off cs
  | .own t off len fin, v => ROwn c H w t off len fin v
  | .fp cs, v => ∃ b o, v = .pointer (some ⟨b, o, none⟩) ∧ RVat c H w b o cs
  | .bp t off, v => (∃ cs, H[t]? = some (.box cs)) ∧ v = .pointer (some ⟨c.ρ t, off, none⟩)
  | .ap t off fin, v => RAp c H w t off fin v
  | .nilp, v => v = .pointer none
  | .mp t, v => (∃ es, H[t]? = some (.map es)) ∧ v = .map (some (c.ρ t))
  | .nilm, v => v = .map none
  | .fn f caps, v => ∃ cv, v = .func (.func f) #[] cv ∧ RVs c H w caps cv.toList
  | .nilf, v => v = .nilFunc
  | .ifc t x, v => ∃ y, v = .iface t y ∧ RV c H w x y
  | .nili, v => v = .nilIface
  | .agg cs, v => ∃ a, v = .agg a ∧ RVs c H w cs a.toList
  | .tup cs, v => ∃ a, v = .tuple a ∧ RVs c H w cs a.toList
def RVs (c : Ctx) (H : Heap) (w : World) : List V → List Value → Prop
  | [], vs => vs = []
  | x :: xs, vs => ∃ y ys, vs = y :: ys ∧ RV c H w x y ∧ RVs c H w xs ys
def RVat (c : Ctx) (H : Heap) (w : World) (b : Nat) : Nat → List V → Prop
  | _, [] => True
  | o, x :: xs => c.frz b o ∧ (∃ y, w.cell? ⟨b, o, none⟩ = some y ∧ RV c H w x y) ∧ RVat c H w b (o + 1) xs
end

theorem RVs_length {c : Ctx} {H : Heap} {w : World} : ∀ {xs : List V} {vs : List Value}, RVs c H w xs vs → xs.length = vs.length
  | [], vs, h => by simp only [RVs] at h; simp [h]
  | x :: xs, vs, h => by
    simp only [RVs] at h
    obtain ⟨y, ys, rfl, _, h⟩ := h
    simp [RVs_length h]

theorem RVs_get {c : Ctx} {H : Heap} {w : World} : ∀ {xs : List V} {vs : List Value}, RVs c H w xs vs → ∀ {i : Nat} {x : V}, xs[i]? = some x → ∃ y, vs[i]? = some y ∧ RV c H w x y
  | [], vs, _, i, x, hx => by simp at hx
  | z :: xs, vs, h, i, x, hx => by
    simp only [RVs] at h
    obtain ⟨y, ys, rfl, h1, h2⟩ := h
    cases i with
    | zero => simp only [List.getElem?_cons_zero, Option.some.injEq] at hx; subst hx; exact ⟨y, by simp, h1⟩
    | succ i => simp only [List.getElem?_cons_succ] at hx; simpa using RVs_get h2 hx

theorem RVs_of {c : Ctx} {H : Heap} {w : World} : ∀ {xs : List V} {vs : List Value}, xs.length = vs.length → (∀ (i : Nat) (x : V) (y : Value), xs[i]? = some x → vs[i]? = some y → RV c H w x y) → RVs c H w xs vs
  | [], vs, h, _ => by simp only [RVs]; exact List.eq_nil_of_length_eq_zero (by simpa using h.symm)
  | x :: xs, [], h, _ => by simp at h
  | x :: xs, y :: ys, h, hx => by
    simp only [RVs]
    exact ⟨y, ys, rfl, hx 0 x y (by simp) (by simp), RVs_of (by simpa using h) fun i a b ha hb => hx (i + 1) a b (by simpa using ha) (by simpa using hb)⟩

theorem RVs_append {c : Ctx} {H : Heap} {w : World} {xs ys : List V} {us vs : List Value} (h : RVs c H w xs us) (h' : RVs c H w ys vs) : RVs c H w (xs ++ ys) (us ++ vs) := by
  induction xs generalizing us with
  | nil => simp only [RVs] at h; subst h; simpa using h'
  | cons x xs ih =>
    simp only [RVs] at h
    obtain ⟨y, zs, rfl, h1, h2⟩ := h
    simp only [List.cons_append, RVs]
    exact ⟨y, zs ++ vs, rfl, h1, ih h2⟩

theorem RVs_take {c : Ctx} {H : Heap} {w : World} {xs : List V} {vs : List Value} (h : RVs c H w xs vs) (n : Nat) : RVs c H w (xs.take n) (vs.take n) := by
  refine RVs_of (by simp [RVs_length h]) fun i x y hx hy => ?_
  rw [List.getElem?_take] at hx hy
  split at hx
  · rename_i hi
    rw [if_pos hi] at hy
    obtain ⟨z, hz, hr⟩ := RVs_get h hx
    rw [hz] at hy; cases hy; exact hr
  · cases hx

theorem RVs_drop {c : Ctx} {H : Heap} {w : World} {xs : List V} {vs : List Value} (h : RVs c H w xs vs) (n : Nat) : RVs c H w (xs.drop n) (vs.drop n) := by
  refine RVs_of (by simp [RVs_length h]) fun i x y hx hy => ?_
  rw [List.getElem?_drop] at hx hy
  obtain ⟨z, hz, hr⟩ := RVs_get h hx
  rw [hz] at hy; cases hy; exact hr

theorem RVat_get {c : Ctx} {H : Heap} {w : World} {b : Nat} : ∀ {xs : List V} {o : Nat}, RVat c H w b o xs → ∀ {i : Nat} {x : V}, xs[i]? = some x → c.frz b (o + i) ∧ ∃ y, w.cell? ⟨b, o + i, none⟩ = some y ∧ RV c H w x y
  | [], _, _, i, x, hx => by simp at hx
  | z :: xs, o, h, i, x, hx => by
    simp only [RVat] at h
    cases i with
    | zero => simp only [List.getElem?_cons_zero, Option.some.injEq] at hx; subst hx; exact ⟨h.1, h.2.1⟩
    | succ i =>
      simp only [List.getElem?_cons_succ] at hx
      have := RVat_get h.2.2 hx
      rwa [show o + 1 + i = o + (i + 1) by omega] at this

theorem RVat_of {c : Ctx} {H : Heap} {w : World} {b : Nat} : ∀ {xs : List V} {o : Nat}, (∀ (i : Nat) (x : V), xs[i]? = some x → c.frz b (o + i) ∧ ∃ y, w.cell? ⟨b, o + i, none⟩ = some y ∧ RV c H w x y) → RVat c H w b o xs
  | [], _, _ => by simp only [RVat]
  | x :: xs, o, h => by
    simp only [RVat]
    have h0 := h 0 x (by simp)
    exact ⟨h0.1, h0.2, RVat_of fun i y hy => by have := h (i + 1) y (by simpa using hy); rwa [show o + (i + 1) = o + 1 + i by omega] at this⟩

/-- nothing was told to the world outside -/
def Outs (w w' : World) : Prop := w'.os = w.os ∧ w'.output = w.output

/-- What a step keeps: all that was known of any value is known behind it. -/
structure Evo (c c' : Ctx) (H H' : Heap) (w w' : World) : Prop where
  base : c'.base = c.base
  low : c'.low = c.low
  old : ∀ b, b < c.low → w'.heap[b]? = w.heap[b]?
  frz : ∀ b o, c.fz b o → c'.fz b o
  fresh : ∀ b o, c'.fz b o → c.fz b o ∨ c.low ≤ b
  cell : ∀ b o, c.frz b o → w'.cell? ⟨b, o, none⟩ = w.cell? ⟨b, o, none⟩
  size : w.heap.size ≤ w'.heap.size
  len : H.length ≤ H'.length
  box : ∀ t cs, H[t]? = some (.box cs) → (∃ cs', H'[t]? = some (.box cs')) ∧ c'.ρ t = c.ρ t
  map : ∀ t es, H[t]? = some (.map es) → (∃ es', H'[t]? = some (.map es')) ∧ c'.ρ t = c.ρ t
  own : ∀ t off len fin v, ROwn c H w t off len fin v → ROwn c' H' w' t off len fin v
  ap : ∀ t off fin v, RAp c H w t off fin v → RAp c' H' w' t off fin v
  rest : ∀ b : Nat, b < w.heap.size → (∀ t o, H[t]? = some o → o ≠ .hole → c.ρ t ≠ b) → w'.heap[b]? = w.heap[b]?
  place : ∀ t o, H'[t]? = some o → o ≠ .hole → (∃ o0, H[t]? = some o0 ∧ o0 ≠ .hole ∧ c'.ρ t = c.ρ t) ∨ w.heap.size ≤ c'.ρ t
  still : ∀ b o, b < w.heap.size → (∀ t o, H[t]? = some o → o ≠ .hole → c.ρ t ≠ b) → c'.fz b o → c.fz b o
  io : Outs w w'

theorem Evo.refl (c : Ctx) (H : Heap) (w : World) : Evo c c H H w w :=
  ⟨rfl, rfl, fun _ _ => rfl, fun _ _ h => h, fun _ _ h => .inl h, fun _ _ _ => rfl, Nat.le_refl _, Nat.le_refl _, fun _ _ h => ⟨⟨_, h⟩, rfl⟩, fun _ _ h => ⟨⟨_, h⟩, rfl⟩, fun _ _ _ _ _ h => h, fun _ _ _ _ h => h, fun _ _ _ => rfl, fun t o ht hn => .inl ⟨o, ht, hn, rfl⟩, fun _ _ _ _ h => h, ⟨rfl, rfl⟩⟩

theorem Evo.frz' {c c' : Ctx} {H H' : Heap} {w w' : World} (h : Evo c c' H H' w w') {b o : Nat} (hb : c.frz b o) : c'.frz b o :=
  hb.elim (fun hb => .inl (by rw [h.base]; exact hb)) fun hb => .inr (h.frz b o hb)

theorem Evo.trans {c c' c'' : Ctx} {H H' H'' : Heap} {w w' w'' : World} (h : Evo c c' H H' w w') (h' : Evo c' c'' H' H'' w' w'') : Evo c c'' H H'' w w'' where
  base := h'.base.trans h.base
  low := h'.low.trans h.low
  old := fun b hb => (h'.old b (by rw [h.low]; exact hb)).trans (h.old b hb)
  frz := fun b o hb => h'.frz b o (h.frz b o hb)
  fresh := fun b o hb => by
    rcases h'.fresh b o hb with h1 | h1
    · exact h.fresh b o h1
    · exact .inr (by rw [← h.low]; exact h1)
  cell := fun b o hb => (h'.cell b o (h.frz' hb)).trans (h.cell b o hb)
  size := Nat.le_trans h.size h'.size
  len := Nat.le_trans h.len h'.len
  box := fun t cs ht => by
    obtain ⟨⟨cs', h1⟩, h2⟩ := h.box t cs ht
    obtain ⟨h3, h4⟩ := h'.box t cs' h1
    exact ⟨h3, h4.trans h2⟩
  map := fun t cs ht => by
    obtain ⟨⟨cs', h1⟩, h2⟩ := h.map t cs ht
    obtain ⟨h3, h4⟩ := h'.map t cs' h1
    exact ⟨h3, h4.trans h2⟩
  own := fun t off len fin v hv => h'.own t off len fin v (h.own t off len fin v hv)
  ap := fun t off fin v hv => h'.ap t off fin v (h.ap t off fin v hv)
  rest := fun b hb hn => (h'.rest b (Nat.lt_of_lt_of_le hb h.size) fun t o ht ho e => by
    rcases h.place t o ht ho with ⟨o0, h1, h2, h3⟩ | h1
    · exact hn t o0 h1 h2 (by rw [← h3]; exact e)
    · omega).trans (h.rest b hb hn)
  place := fun t o ht ho => by
    rcases h'.place t o ht ho with ⟨o1, h1, h2, h3⟩ | h1
    · rcases h.place t o1 h1 h2 with ⟨o0, h4, h5, h6⟩ | h4
      · exact .inl ⟨o0, h4, h5, h3.trans h6⟩
      · exact .inr (by rw [h3]; exact h4)
    · exact .inr (Nat.le_trans h.size h1)
  io := ⟨h'.io.1.trans h.io.1, h'.io.2.trans h.io.2⟩
  still := fun b o hb hn hx => h.still b o hb hn (h'.still b o (Nat.lt_of_lt_of_le hb h.size) (fun t o ht ho e => by
    rcases h.place t o ht ho with ⟨o0, h1, h2, h3⟩ | h1
    · exact hn t o0 h1 h2 (by rw [← h3]; exact e)
    · omega) hx)

section
variable {c c' : Ctx} {H H' : Heap} {w w' : World}
mutual
theorem Evo.rv (h : Evo c c' H H' w w') : ∀ (x : V) (v : Value), RV c H w x v → RV c' H' w' x v
  | .junk, v, hv => by simpa only [RV] using hv
  | .int _ _, v, hv => by simpa only [RV] using hv
  | .bool _, v, hv => by simpa only [RV] using hv
  | .str _, v, hv => by simpa only [RV] using hv
  | .sl len full cs, v, hv => by
    simp only [RV] at hv ⊢
    obtain ⟨a, cap, h1, h2, h3, h4, h5⟩ := hv
    exact ⟨a, cap, h1, h2, h3, h4, fun x hx => ⟨(h5 x hx).1, Evo.rvat h x.block x.off cs (h5 x hx).2⟩⟩
  | .own t off len fin, v, hv => by simp only [RV] at hv ⊢; exact h.own t off len fin v hv
  | .fp cs, v, hv => by
    simp only [RV] at hv ⊢
    obtain ⟨b, o, h1, h2⟩ := hv
    exact ⟨b, o, h1, Evo.rvat h b o cs h2⟩
  | .bp t off, v, hv => by
    simp only [RV] at hv ⊢
    obtain ⟨⟨cs, h1⟩, h2⟩ := hv
    obtain ⟨h3, h4⟩ := h.box t cs h1
    exact ⟨h3, by rw [h2, h4]⟩
  | .ap t off fin, v, hv => by simp only [RV] at hv ⊢; exact h.ap t off fin v hv
  | .nilp, v, hv => by simpa only [RV] using hv
  | .mp t, v, hv => by
    simp only [RV] at hv ⊢
    obtain ⟨⟨cs, h1⟩, h2⟩ := hv
    obtain ⟨h3, h4⟩ := h.map t cs h1
    exact ⟨h3, by rw [h2, h4]⟩
  | .nilm, v, hv => by simpa only [RV] using hv
  | .fn f caps, v, hv => by
    simp only [RV] at hv ⊢
    obtain ⟨cv, h1, h2⟩ := hv
    exact ⟨cv, h1, Evo.rvs h caps _ h2⟩
  | .nilf, v, hv => by simpa only [RV] using hv
  | .ifc t x, v, hv => by
    simp only [RV] at hv ⊢
    obtain ⟨y, h1, h2⟩ := hv
    exact ⟨y, h1, Evo.rv h x y h2⟩
  | .nili, v, hv => by simpa only [RV] using hv
  | .agg cs, v, hv => by
    simp only [RV] at hv ⊢
    obtain ⟨a, h1, h2⟩ := hv
    exact ⟨a, h1, Evo.rvs h cs _ h2⟩
  | .tup cs, v, hv => by
    simp only [RV] at hv ⊢
    obtain ⟨a, h1, h2⟩ := hv
    exact ⟨a, h1, Evo.rvs h cs _ h2⟩
theorem Evo.rvs (h : Evo c c' H H' w w') : ∀ (xs : List V) (vs : List Value), RVs c H w xs vs → RVs c' H' w' xs vs
  | [], vs, hv => by simpa only [RVs] using hv
  | x :: xs, vs, hv => by
    simp only [RVs] at hv ⊢
    obtain ⟨y, ys, h1, h2, h3⟩ := hv
    exact ⟨y, ys, h1, Evo.rv h x y h2, Evo.rvs h xs ys h3⟩
theorem Evo.rvat (h : Evo c c' H H' w w') (b : Nat) : ∀ (o : Nat) (xs : List V), RVat c H w b o xs → RVat c' H' w' b o xs
  | o, [], _ => by simp only [RVat]
  | o, x :: xs, hv => by
    simp only [RVat] at hv ⊢
    obtain ⟨h1, ⟨y, h2, h3⟩, h4⟩ := hv
    exact ⟨h.frz' h1, ⟨y, by rw [h.cell b o h1]; exact h2, Evo.rv h x y h3⟩, Evo.rvat h b (o + 1) xs h4⟩
end
end
end Go.Av
namespace Go.Av

/-- no cell of a row is frozen -/
def Thawed (a : Array Value) (fr : Nat × Nat) : Prop := fr.2 ≤ fr.1 ∨ a.size ≤ fr.1

/-- what an object has to do with its block -/
def RO (c : Ctx) (H : Heap) (w : World) (t : Nat) : Ob → Prop
  | .hole => True
  | .box cs => c.low ≤ c.ρ t ∧ c.ρ t < w.heap.size ∧ (∀ o, ¬ c.fz (c.ρ t) o) ∧ ∃ a e, w.heap[c.ρ t]? = some (.cells a e (0, 0)) ∧ RVs c H w cs a.toList
  | .arr k st _ cs => c.low ≤ c.ρ t ∧ c.ρ t < w.heap.size ∧ (∀ o, c.fz (c.ρ t) o ↔ (st = false ∧ o < cs.length)) ∧ 0 < k ∧
      ∃ a e, (∃ fr, Thawed a fr ∧ w.heap[c.ρ t]? = some (.cells a e fr)) ∧ cs.length ≤ a.size ∧ RVs c H w cs (a.toList.take cs.length)
  | .map es => c.low ≤ c.ρ t ∧ c.ρ t < w.heap.size ∧ (∀ o, ¬ c.fz (c.ρ t) o) ∧ ∃ ents clock, w.heap[c.ρ t]? = some (.map ents clock) ∧ es.length = ents.size ∧
      ∀ (i : Nat) (p : V × V) (e : MapEntry), es[i]? = some p → ents[i]? = some e → RV c H w p.1 e.key ∧ RV c H w p.2 e.val

structure RH (c : Ctx) (H : Heap) (w : World) : Prop where
  base : c.base ≤ c.low
  low : c.low ≤ w.heap.size
  fz : ∀ b o, c.fz b o → b < w.heap.size
  ob : ∀ t o, H[t]? = some o → RO c H w t o
  inj : ∀ t u o o', H[t]? = some o → H[u]? = some o' → o ≠ .hole → o' ≠ .hole → c.ρ t = c.ρ u → t = u

theorem cell_congr {w w' : World} {b : Nat} (h : w'.heap[b]? = w.heap[b]?) (o : Nat) : w'.cell? ⟨b, o, none⟩ = w.cell? ⟨b, o, none⟩ := by
  simp only [World.cell?, h]

theorem room_congr {w w' : World} {b : Nat} (h : w'.heap[b]? = w.heap[b]?) : room w' b = room w b := by
  simp only [room, h]

theorem RO.low {c : Ctx} {H : Heap} {w : World} {t : Nat} {o : Ob} (h : RO c H w t o) (hn : o ≠ .hole) : c.low ≤ c.ρ t ∧ c.ρ t < w.heap.size := by
  cases o <;> simp only [RO] at h <;> first | exact ⟨h.1, h.2.1⟩ | exact absurd rfl hn

/-- no object's block is met by its like's change -/
theorem step_obj {c c' : Ctx} {H : Heap} {w w' : World} {t : Nat} {ob ob' : Ob} {E : Nat → Nat → Prop} (h : RH c H w) (ht : H[t]? = some ob) (hn' : ob' ≠ .hole)
    (hb : c'.base = c.base) (hbl : c'.low = c.low) (hρ : ∀ u, u ≠ t → c'.ρ u = c.ρ u) (hnew : (c'.ρ t = c.ρ t ∧ ob ≠ .hole) ∨ c'.ρ t = w.heap.size)
    (ho : ∀ b, b ≠ c'.ρ t → b < w.heap.size → w'.heap[b]? = w.heap[b]?) (hs : w.heap.size ≤ w'.heap.size)
    (hf : ∀ b o, c'.fz b o ↔ (c.fz b o ∨ E b o)) (hE : ∀ b o, E b o → c.low ≤ b ∧ b < w'.heap.size ∧ (∀ u o', u ≠ t → H[u]? = some o' → o' ≠ .hole → b ≠ c.ρ u) ∧ ((b = c.ρ t ∧ ob ≠ .hole) ∨ w.heap.size ≤ b))
    (hc : ∀ o, c.frz (c'.ρ t) o → w'.cell? ⟨c'.ρ t, o, none⟩ = w.cell? ⟨c'.ρ t, o, none⟩)
    (hbox : ∀ cs, ob = .box cs → (∃ cs', ob' = .box cs') ∧ c'.ρ t = c.ρ t) (hmap : ∀ cs, ob = .map cs → (∃ cs', ob' = .map cs') ∧ c'.ρ t = c.ρ t)
    (hown : ∀ off len fin v, ROwn c H w t off len fin v → ROwn c' (H.set t ob') w' t off len fin v)
    (hap : ∀ off fin v, RAp c H w t off fin v → RAp c' (H.set t ob') w' t off fin v)
    (hio : Outs w w' := by exact ⟨rfl, rfl⟩) :
    Evo c c' H (H.set t ob') w w' ∧ (RO c' (H.set t ob') w' t ob' → RH c' (H.set t ob') w') := by
  have htl : t < H.length := (List.getElem?_eq_some_iff.1 ht).1
  have hset : (H.set t ob')[t]? = some ob' := by simp [htl]
  have hsetn : ∀ u, u ≠ t → (H.set t ob')[u]? = H[u]? := fun u hu => List.getElem?_set_ne (Ne.symm hu)
  have hlow : c.low ≤ c'.ρ t := by
    rcases hnew with ⟨h1, h2⟩ | h1
    · rw [h1]; exact ((h.ob t ob ht).low h2).1
    · rw [h1]; exact h.low
  -- another object's block is none that changes
  have hoth : ∀ u o', u ≠ t → H[u]? = some o' → o' ≠ .hole → c.ρ u ≠ c'.ρ t ∧ c.ρ u < w.heap.size := by
    intro u o' hu hu' hn
    have hl := ((h.ob u o' hu').low hn).2
    refine ⟨fun e => ?_, hl⟩
    rcases hnew with ⟨h1, h2⟩ | h1
    · exact hu (h.inj u t o' ob hu' ht hn h2 (by rw [e, h1]))
    · rw [e, h1] at hl; exact Nat.lt_irrefl _ hl
  have hothh : ∀ u o', u ≠ t → H[u]? = some o' → o' ≠ .hole → w'.heap[c.ρ u]? = w.heap[c.ρ u]? := fun u o' hu hu' hn => ho _ (hoth u o' hu hu' hn).1 (hoth u o' hu hu' hn).2
  have hcell : ∀ b o, c.frz b o → w'.cell? ⟨b, o, none⟩ = w.cell? ⟨b, o, none⟩ := by
    intro b o hfr
    by_cases hbt : b = c'.ρ t
    · subst hbt; exact hc o hfr
    · refine cell_congr (ho b hbt ?_) o
      rcases hfr with hlt | hfz
      · exact Nat.lt_of_lt_of_le hlt (Nat.le_trans h.base h.low)
      · exact h.fz b o hfz
  have hfrz : ∀ b o, c.frz b o → c'.frz b o := fun b o hfr => hfr.elim (fun hl => .inl (by rw [hb]; exact hl)) fun hfz => .inr ((hf b o).2 (.inl hfz))
  have hpos : ∀ u o', u ≠ t → H[u]? = some o' → o' ≠ .hole → ∀ p f n b o, Pos c w u p f n b o → Pos c' w' u p f n b o := by
    intro u o' hu hu' hn p f n b o hp
    have hh := hothh u o' hu hu' hn
    refine ⟨?_, by rw [hρ u hu]; exact hp.2⟩
    unfold Link
    rw [hρ u hu]
    rcases hp.1 with hp1 | hp1
    · exact .inl hp1
    · exact .inr fun i hi => ⟨hfrz _ _ (hp1 i hi).1, by rw [hcell _ _ (hp1 i hi).1, cell_congr hh]; exact (hp1 i hi).2⟩
  have hevo : Evo c c' H (H.set t ob') w w' := by
    refine ⟨hb, hbl, fun b hbb => ho b (fun e => ?_) (Nat.lt_of_lt_of_le hbb h.low), fun b o hfz => (hf b o).2 (.inl hfz), fun b o hfz => ((hf b o).1 hfz).imp id fun hx => (hE b o hx).1, hcell, hs, by simp, ?_, ?_, ?_, ?_, fun b hb hn => ho b (fun e => ?_) hb, fun u o hu hno => ?_, fun b o hb hn hx => ((hf b o).1 hx).resolve_right fun hx => ?_, hio⟩
    · rw [e] at hbb; exact absurd hlow (Nat.not_le_of_lt hbb)
    · intro u cs hu
      by_cases hut : u = t
      · subst hut
        rw [ht] at hu
        obtain ⟨⟨cs', h1⟩, h2⟩ := hbox cs (Option.some.inj hu)
        exact ⟨⟨cs', by rw [hset, h1]⟩, h2⟩
      · exact ⟨⟨cs, by rw [hsetn u hut]; exact hu⟩, hρ u hut⟩
    · intro u cs hu
      by_cases hut : u = t
      · subst hut
        rw [ht] at hu
        obtain ⟨⟨cs', h1⟩, h2⟩ := hmap cs (Option.some.inj hu)
        exact ⟨⟨cs', by rw [hset, h1]⟩, h2⟩
      · exact ⟨⟨cs, by rw [hsetn u hut]; exact hu⟩, hρ u hut⟩
    · intro u off len fin v hv
      by_cases hut : u = t
      · subst hut; exact hown off len fin v hv
      · obtain ⟨hsv, k, st, me, cs, h1, h2, h3⟩ := hv
        refine ⟨hsv, k, st, me, cs, by rw [hsetn u hut]; exact h1, h2, fun hm => ?_⟩
        obtain ⟨b, o, cap, h4, h5, h6, h7, h8⟩ := h3 hm
        exact ⟨b, o, cap, h4, h5, h6, hpos u _ hut h1 (by simp) _ _ _ _ _ h7, fun he => by rw [hρ u hut, room_congr (hothh u _ hut h1 (by simp))]; exact h8 he⟩
    · intro u off fin v hv
      by_cases hut : u = t
      · subst hut; exact hap off fin v hv
      · obtain ⟨hsv, k, st, me, cs, h1, h2, h3⟩ := hv
        refine ⟨hsv, k, st, me, cs, by rw [hsetn u hut]; exact h1, h2, fun hm => ?_⟩
        obtain ⟨b, o, h4, h7⟩ := h3 hm
        exact ⟨b, o, h4, hpos u _ hut h1 (by simp) _ _ _ _ _ h7⟩
    · rcases hnew with ⟨h1, h2⟩ | h1
      · exact hn t ob ht h2 (by rw [← h1]; exact e.symm)
      · rw [e, h1] at hb; exact Nat.lt_irrefl _ hb
    · by_cases hut : u = t
      · subst hut
        rcases hnew with ⟨h1, h2⟩ | h1
        · exact .inl ⟨ob, ht, h2, h1⟩
        · exact .inr (by rw [h1]; exact Nat.le_refl _)
      · exact .inl ⟨o, by rw [← hsetn u hut]; exact hu, hno, hρ u hut⟩
    · rcases (hE b o hx).2.2.2 with ⟨h1, h2⟩ | h1
      · exact hn t ob ht h2 h1.symm
      · omega
  refine ⟨hevo, fun hro => ⟨by rw [hb, hbl]; exact h.base, by rw [hbl]; exact Nat.le_trans h.low hs, fun b o hfz => ?_, fun u o' hu => ?_, fun u v o o' hu hv hno hno' he => ?_⟩⟩
  · rcases (hf b o).1 hfz with h1 | h1
    · exact Nat.lt_of_lt_of_le (h.fz b o h1) hs
    · exact (hE b o h1).2.1
  · by_cases hut : u = t
    · subst hut; rw [hset] at hu; rw [← Option.some.inj hu]; exact hro
    · rw [hsetn u hut] at hu
      have hr := h.ob u o' hu
      by_cases hno : o' = .hole
      · subst hno; simp only [RO]
      · have hh := hothh u o' hut hu hno
        have hfu : ∀ o, c'.fz (c.ρ u) o ↔ c.fz (c.ρ u) o := fun o => (hf _ o).trans ⟨fun hx => hx.elim id fun hx => absurd rfl ((hE _ o hx).2.2.1 u o' hut hu hno), .inl⟩
        cases o' with
        | hole => exact absurd rfl hno
        | box cs =>
          simp only [RO, hρ u hut, hbl] at hr ⊢
          obtain ⟨h1, h2, h3, a, e, h4, h5⟩ := hr
          exact ⟨h1, Nat.lt_of_lt_of_le h2 hs, fun o hx => h3 o ((hfu o).1 hx), a, e, by rw [hh]; exact h4, hevo.rvs _ _ h5⟩
        | arr k st me cs =>
          simp only [RO, hρ u hut, hbl] at hr ⊢
          obtain ⟨h1, h2, h3, h6, a, e, h4, h7, h5⟩ := hr
          exact ⟨h1, Nat.lt_of_lt_of_le h2 hs, fun o => (hfu o).trans (h3 o), h6, a, e, by rw [hh]; exact h4, h7, hevo.rvs _ _ h5⟩
        | map es =>
          simp only [RO, hρ u hut, hbl] at hr ⊢
          obtain ⟨h1, h2, h3, a, e, h4, h7, h5⟩ := hr
          exact ⟨h1, Nat.lt_of_lt_of_le h2 hs, fun o hx => h3 o ((hfu o).1 hx), a, e, by rw [hh]; exact h4, h7, fun i p q hp hq => ⟨hevo.rv _ _ (h5 i p q hp hq).1, hevo.rv _ _ (h5 i p q hp hq).2⟩⟩
  · by_cases hut : u = t
    · by_cases hvt : v = t
      · rw [hut, hvt]
      · rw [hsetn v hvt] at hv
        rw [hut, hρ v hvt] at he
        exact absurd he.symm (hoth v o' hvt hv hno').1
    · rw [hsetn u hut] at hu
      by_cases hvt : v = t
      · rw [hvt, hρ u hut] at he
        exact absurd he (hoth u o hut hu hno).1
      · rw [hsetn v hvt] at hv
        rw [hρ u hut, hρ v hvt] at he
        exact h.inj u v o o' hu hv hno hno' he
end Go.Av
namespace Go.Av
variable {c : Ctx} {H : Heap} {w : World}

theorem step_same {w' : World} (h : RH c H w) (he : w'.heap = w.heap) (hio : Outs w w' := by exact ⟨rfl, rfl⟩) : Evo c c H H w w' ∧ RH c H w' := by
  have hb : ∀ b : Nat, w'.heap[b]? = w.heap[b]? := fun b => by rw [he]
  have hev : Evo c c H H w w' := by
    refine ⟨rfl, rfl, fun b _ => hb b, fun _ _ h => h, fun _ _ h => .inl h, fun b o _ => cell_congr (hb b) o, by rw [he]; exact Nat.le_refl _, Nat.le_refl _, fun _ _ h => ⟨⟨_, h⟩, rfl⟩, fun _ _ h => ⟨⟨_, h⟩, rfl⟩, ?_, ?_, fun b _ _ => hb b, fun t o ht hn => .inl ⟨o, ht, hn, rfl⟩, fun _ _ _ _ h => h, hio⟩
    · intro t off len fin v hv
      obtain ⟨hsv, k, st, me, cs, h1, h2, h3⟩ := hv
      refine ⟨hsv, k, st, me, cs, h1, h2, fun hm => ?_⟩
      obtain ⟨b, o, cap, h4, h5, h6, h7, h8⟩ := h3 hm
      refine ⟨b, o, cap, h4, h5, h6, ⟨h7.1.imp id fun hl i hi => ⟨(hl i hi).1, by rw [cell_congr (hb b), cell_congr (hb _)]; exact (hl i hi).2⟩, h7.2⟩, fun hx => by rw [room_congr (hb _)]; exact h8 hx⟩
    · intro t off fin v hv
      obtain ⟨hsv, k, st, me, cs, h1, h2, h3⟩ := hv
      refine ⟨hsv, k, st, me, cs, h1, h2, fun hm => ?_⟩
      obtain ⟨b, o, h4, h7⟩ := h3 hm
      exact ⟨b, o, h4, ⟨h7.1.imp id fun hl i hi => ⟨(hl i hi).1, by rw [cell_congr (hb b), cell_congr (hb _)]; exact (hl i hi).2⟩, h7.2⟩⟩
  refine ⟨hev, h.base, by rw [he]; exact h.low, fun b o hx => by rw [he]; exact h.fz b o hx, fun t o ht => ?_, h.inj⟩
  have hr := h.ob t o ht
  cases o with
  | hole => simp only [RO]
  | box cs =>
    simp only [RO, he] at hr ⊢
    obtain ⟨h1, h2, h3, a, e, h4, h5⟩ := hr
    exact ⟨h1, h2, h3, a, e, h4, hev.rvs _ _ h5⟩
  | arr k st me cs =>
    simp only [RO, he] at hr ⊢
    obtain ⟨h1, h2, h3, h6, a, e, h4, h7, h5⟩ := hr
    exact ⟨h1, h2, h3, h6, a, e, h4, h7, hev.rvs _ _ h5⟩
  | map es =>
    simp only [RO, he] at hr ⊢
    obtain ⟨h1, h2, h3, a, e, h4, h7, h5⟩ := hr
    exact ⟨h1, h2, h3, a, e, h4, h7, fun i p q hp hq => ⟨hev.rv _ _ (h5 i p q hp hq).1, hev.rv _ _ (h5 i p q hp hq).2⟩⟩

/-- more objects, of which nothing is known -/
theorem evo_app (X : Heap) (hX : ∀ o ∈ X, o = Ob.hole) : Evo c c H (H ++ X) w w := by
  have hg : ∀ {t : Nat} {o : Ob}, H[t]? = some o → (H ++ X)[t]? = some o := fun ht => by
    rw [List.getElem?_append_left (List.getElem?_eq_some_iff.1 ht).1]; exact ht
  refine ⟨rfl, rfl, fun _ _ => rfl, fun _ _ h => h, fun _ _ h => .inl h, fun _ _ _ => rfl, Nat.le_refl _, by simp, fun t cs ht => ⟨⟨cs, hg ht⟩, rfl⟩, fun t cs ht => ⟨⟨cs, hg ht⟩, rfl⟩, ?_, ?_, fun _ _ _ => rfl, fun t o ht hn => ?_, fun _ _ _ _ h => h, ⟨rfl, rfl⟩⟩
  · rintro t off len fin v ⟨hsv, k, st, me, cs, h1, h2⟩; exact ⟨hsv, k, st, me, cs, hg h1, h2⟩
  · rintro t off fin v ⟨hsv, k, st, me, cs, h1, h2⟩; exact ⟨hsv, k, st, me, cs, hg h1, h2⟩
  · rcases Nat.lt_or_ge t H.length with hl | hl
    · rw [List.getElem?_append_left hl] at ht; exact .inl ⟨o, ht, hn, rfl⟩
    · rw [List.getElem?_append_right hl] at ht; exact absurd (hX o (List.mem_of_getElem? ht)) hn

theorem RO.evo {H' : Heap} {t : Nat} {o : Ob} (hev : Evo c c H H' w w) (hr : RO c H w t o) : RO c H' w t o := by
  cases o with
  | hole => simp only [RO]
  | box cs =>
    simp only [RO] at hr ⊢
    obtain ⟨h1, h2, h3, a, e, h4, h5⟩ := hr
    exact ⟨h1, h2, h3, a, e, h4, hev.rvs _ _ h5⟩
  | arr k st me cs =>
    simp only [RO] at hr ⊢
    obtain ⟨h1, h2, h3, h6, a, e, h4, h7, h5⟩ := hr
    exact ⟨h1, h2, h3, h6, a, e, h4, h7, hev.rvs _ _ h5⟩
  | map es =>
    simp only [RO] at hr ⊢
    obtain ⟨h1, h2, h3, a, e, h4, h7, h5⟩ := hr
    exact ⟨h1, h2, h3, a, e, h4, h7, fun i p q hp hq => ⟨hev.rv _ _ (h5 i p q hp hq).1, hev.rv _ _ (h5 i p q hp hq).2⟩⟩

theorem step_holes (h : RH c H w) (n : Nat) : Evo c c H (H ++ List.replicate n Ob.hole) w w ∧ RH c (H ++ List.replicate n Ob.hole) w := by
  have hev := evo_app (c := c) (H := H) (w := w) (List.replicate n Ob.hole) (fun o ho => List.eq_of_mem_replicate ho)
  have hg : ∀ (t : Nat) (o : Ob), (H ++ List.replicate n Ob.hole)[t]? = some o → o ≠ .hole → H[t]? = some o := fun t o ht hn => by
    rcases Nat.lt_or_ge t H.length with hl | hl
    · rwa [List.getElem?_append_left hl] at ht
    · rw [List.getElem?_append_right hl] at ht
      exact absurd (List.eq_of_mem_replicate (List.mem_of_getElem? ht)) hn
  refine ⟨hev, h.base, h.low, h.fz, fun t o ht => ?_, fun t u o o' ht hu hn hn' he => h.inj t u o o' (hg t o ht hn) (hg u o' hu hn') hn hn' he⟩
  by_cases hn : o = .hole
  · subst hn; simp only [RO]
  · exact (h.ob t o (hg t o ht hn)).evo hev

/-- a new block for what was laid aside -/
theorem step_fill (h : RH c H w) {t : Nat} (ht : H[t]? = some .hole) {w' : World} {o : Obj} (hw : w'.heap = w.heap.push o) (ob : Ob)
    (hob : (∃ cs a e, ob = .box cs ∧ o = .cells a e (0, 0) ∧ RVs c H w cs a.toList) ∨
      (∃ k st cs a e, ob = .arr k st 0 cs ∧ o = .cells a e (0, 0) ∧ 0 < k ∧ cs.length ≤ a.size ∧ RVs c H w cs (a.toList.take cs.length)) ∨ (ob = .map [] ∧ ∃ n, o = .map #[] n)) (hio : Outs w w' := by exact ⟨rfl, rfl⟩) :
    ∃ c', c'.ρ t = w.heap.size ∧ Evo c c' H (H.set t ob) w w' ∧ RH c' (H.set t ob) w' := by
  have hnew : w'.heap[w.heap.size]? = some o := by rw [hw]; simp
  have hold : ∀ b : Nat, b < w.heap.size → w'.heap[b]? = w.heap[b]? := fun b hb => by rw [hw, Array.getElem?_push]; simp [Nat.ne_of_lt hb]
  have hnn : ob ≠ .hole := by rcases hob with ⟨cs, a, e, h1, _⟩ | ⟨k, st, cs, a, e, h1, _⟩ | ⟨h1, _⟩ <;> rw [h1] <;> simp
  have hsz : w'.heap.size = w.heap.size + 1 := by rw [hw]; simp
  let n : Nat := match ob with | .arr _ false _ cs => cs.length | _ => 0
  let c' : Ctx := { base := c.base, low := c.low, fz := fun b o => c.fz b o ∨ (b = w.heap.size ∧ o < n), ρ := fun u => if u = t then w.heap.size else c.ρ u }
  have hρt : c'.ρ t = w.heap.size := by simp [c']
  have hnofz : ∀ o, ¬ c.fz w.heap.size o := fun o hx => Nat.lt_irrefl _ (h.fz _ o hx)
  have key := step_obj (hio := hio) (c := c) (c' := c') (H := H) (w := w) (w' := w') (t := t) (ob := .hole) (ob' := ob) (E := fun b o => b = w.heap.size ∧ o < n) h ht hnn rfl rfl
    (fun u hu => by simp [c', hu]) (.inr hρt) (fun b hb hl => hold b hl) (by omega) (fun b o => Iff.rfl)
    (fun b o hx => ⟨by have := h.low; omega, by omega, fun u o' hu hu' hn => by have := ((h.ob u o' hu').low hn).2; omega, .inr (by omega)⟩)
    (fun o hx => by
      rw [hρt] at hx
      rcases hx with hx | hx
      · exact absurd (Nat.le_trans h.base h.low) (Nat.not_le_of_lt hx)
      · exact absurd hx (hnofz o))
    (fun cs hx => by cases hx) (fun cs hx => by cases hx)
    (fun off len fin v hv => by obtain ⟨hsv, k, st, me, cs, h1, _⟩ := hv; rw [ht] at h1; cases h1)
    (fun off fin v hv => by obtain ⟨hsv, k, st, me, cs, h1, _⟩ := hv; rw [ht] at h1; cases h1)
  refine ⟨c', hρt, key.1, key.2 ?_⟩
  have hlo : c'.low ≤ c'.ρ t ∧ c'.ρ t < w'.heap.size := by rw [hρt, hsz]; exact ⟨h.low, Nat.lt_succ_self _⟩
  rcases hob with ⟨cs, a, e, h1, h2, h3⟩ | ⟨k, st, cs, a, e, h1, h2, h3, h4, h5⟩ | ⟨h1, m, h2⟩
  · subst h1
    simp only [RO]
    refine ⟨hlo.1, hlo.2, fun o hx => ?_, a, e, by rw [hρt, hnew, h2], key.1.rvs _ _ h3⟩
    rw [hρt] at hx
    rcases hx with hx | hx
    · exact hnofz o hx
    · exact Nat.not_lt_zero _ hx.2
  · subst h1
    simp only [RO]
    refine ⟨hlo.1, hlo.2, fun o => ?_, h3, a, e, ⟨(0, 0), .inl (Nat.le_refl 0), by rw [hρt, hnew, h2]⟩, h4, key.1.rvs _ _ h5⟩
    rw [hρt]
    constructor
    · rintro (hx | hx)
      · exact absurd hx (hnofz o)
      · cases st with
        | true => exact absurd hx.2 (Nat.not_lt_zero _)
        | false => exact ⟨rfl, hx.2⟩
    · rintro ⟨rfl, hx⟩
      exact .inr ⟨rfl, hx⟩
  · subst h1
    simp only [RO]
    refine ⟨hlo.1, hlo.2, fun o hx => ?_, #[], m, by rw [hρt, hnew, h2], rfl, fun i p e hp => by simp at hp⟩
    rw [hρt] at hx
    rcases hx with hx | hx
    · exact hnofz o hx
    · exact Nat.not_lt_zero _ hx.2

/-- a new object behind all others -/
theorem step_new (h : RH c H w) {w' : World} {o : Obj} (hw : w'.heap = w.heap.push o) (ob : Ob)
    (hob : (∃ cs a e, ob = .box cs ∧ o = .cells a e (0, 0) ∧ RVs c H w cs a.toList) ∨
      (∃ k st cs a e, ob = .arr k st 0 cs ∧ o = .cells a e (0, 0) ∧ 0 < k ∧ cs.length ≤ a.size ∧ RVs c H w cs (a.toList.take cs.length)) ∨ (ob = .map [] ∧ ∃ n, o = .map #[] n)) (hio : Outs w w' := by exact ⟨rfl, rfl⟩) :
    ∃ c', c'.ρ H.length = w.heap.size ∧ Evo c c' H (H ++ [ob]) w w' ∧ RH c' (H ++ [ob]) w' := by
  obtain ⟨e1, h1⟩ := step_holes h 1
  have ht : (H ++ List.replicate 1 Ob.hole)[H.length]? = some .hole := by simp
  have hset : (H ++ List.replicate 1 Ob.hole).set H.length ob = H ++ [ob] := by simp
  obtain ⟨c', hc, e2, h2⟩ := step_fill (hio := hio) h1 ht hw ob (by
    rcases hob with ⟨cs, a, e, h1, h2, h3⟩ | ⟨k, st, cs, a, e, h1, h2, h3, h4, h5⟩ | h6
    · exact .inl ⟨cs, a, e, h1, h2, e1.rvs _ _ h3⟩
    · exact .inr (.inl ⟨k, st, cs, a, e, h1, h2, h3, h4, e1.rvs _ _ h5⟩)
    · exact .inr (.inr h6))
  rw [hset] at e2 h2
  exact ⟨c', hc, e1.trans e2, h2⟩

/-- a new row that nothing changes -/
theorem step_row (h : RH c H w) {w' : World} {a : Array Value} {e : TypeId} {fr : Nat × Nat} (hw : w'.heap = w.heap.push (.cells a e fr)) (hio : Outs w w' := by exact ⟨rfl, rfl⟩) :
    ∃ c', Evo c c' H H w w' ∧ RH c' H w' ∧ ∀ cs, RVs c H w cs a.toList → RVat c' H w' w.heap.size 0 cs := by
  have hnew : w'.heap[w.heap.size]? = some (.cells a e fr) := by rw [hw]; simp
  have hold : ∀ b : Nat, b < w.heap.size → w'.heap[b]? = w.heap[b]? := fun b hb => by rw [hw, Array.getElem?_push]; simp [Nat.ne_of_lt hb]
  have hsz : w'.heap.size = w.heap.size + 1 := by rw [hw]; simp
  let c' : Ctx := { base := c.base, low := c.low, fz := fun b o => c.fz b o ∨ b = w.heap.size, ρ := c.ρ }
  have hl : ∀ {b o}, c.frz b o → b < w.heap.size := fun hx => hx.elim (fun hx => Nat.lt_of_lt_of_le hx (Nat.le_trans h.base h.low)) fun hx => h.fz _ _ hx
  have hfr : ∀ {b o}, c.frz b o → c'.frz b o := fun hx => hx.imp id .inl
  have hpos : ∀ t o', H[t]? = some o' → o' ≠ .hole → ∀ p f n b o, Pos c w t p f n b o → Pos c' w' t p f n b o := by
    intro t o' ht hn p f n b o hp
    have hh := hold _ ((h.ob t o' ht).low hn).2
    exact ⟨hp.1.imp id fun hx i hi => ⟨hfr (hx i hi).1, by rw [cell_congr (hold _ (hl (hx i hi).1)), cell_congr hh]; exact (hx i hi).2⟩, hp.2⟩
  have hev : Evo c c' H H w w' := by
    refine ⟨rfl, rfl, fun b hb => hold b (Nat.lt_of_lt_of_le hb h.low), fun b o hx => .inl hx, fun b o hx => hx.imp id fun hx => by have := h.low; omega, fun b o hx => cell_congr (hold b (hl hx)) o, by omega, Nat.le_refl _, fun t cs ht => ⟨⟨cs, ht⟩, rfl⟩, fun t cs ht => ⟨⟨cs, ht⟩, rfl⟩, ?_, ?_, fun b hb _ => hold b hb, fun t o ht hn => .inl ⟨o, ht, hn, rfl⟩, fun b o hb _ hx => hx.resolve_right fun hx => by omega, hio⟩
    · rintro t off len fin v ⟨hsv, k, st, me, cs, h1, h2, h3⟩
      refine ⟨hsv, k, st, me, cs, h1, h2, fun hm => ?_⟩
      obtain ⟨b, o, cap, h4, h5, h6, h7, h8⟩ := h3 hm
      exact ⟨b, o, cap, h4, h5, h6, hpos t _ h1 (by simp) _ _ _ _ _ h7, fun he => by rw [show c'.ρ t = c.ρ t from rfl, room_congr (hold _ ((h.ob t _ h1).low (by simp)).2)]; exact h8 he⟩
    · rintro t off fin v ⟨hsv, k, st, me, cs, h1, h2, h3⟩
      refine ⟨hsv, k, st, me, cs, h1, h2, fun hm => ?_⟩
      obtain ⟨b, o, h4, h7⟩ := h3 hm
      exact ⟨b, o, h4, hpos t _ h1 (by simp) _ _ _ _ _ h7⟩
  refine ⟨c', hev, ⟨h.base, by have := h.low; show c.low ≤ _; omega, fun b o hx => ?_, fun t o ht => ?_, h.inj⟩, fun cs hcs => RVat_of fun i x hx => ?_⟩
  · rcases hx with hx | hx
    · have := h.fz b o hx; omega
    · omega
  · have hr := h.ob t o ht
    by_cases hn : o = .hole
    · subst hn; simp only [RO]
    have hlow := ((h.ob t o ht).low hn).2
    have hh := hold _ hlow
    have hfu : ∀ o, c'.fz (c.ρ t) o ↔ c.fz (c.ρ t) o := fun o => ⟨fun hx => hx.elim id fun hx => by omega, .inl⟩
    cases o with
    | hole => exact absurd rfl hn
    | box cs =>
      simp only [RO] at hr ⊢
      obtain ⟨h1, h2, h3, a, e, h4, h5⟩ := hr
      exact ⟨h1, by show c.ρ t < _; omega, fun o hx => h3 o ((hfu o).1 hx), a, e, by rw [show c'.ρ t = c.ρ t from rfl, hh]; exact h4, hev.rvs _ _ h5⟩
    | arr k st me cs =>
      simp only [RO] at hr ⊢
      obtain ⟨h1, h2, h3, h6, a, e, h4, h7, h5⟩ := hr
      exact ⟨h1, by show c.ρ t < _; omega, fun o => (hfu o).trans (h3 o), h6, a, e, by rw [show c'.ρ t = c.ρ t from rfl, hh]; exact h4, h7, hev.rvs _ _ h5⟩
    | map es =>
      simp only [RO] at hr ⊢
      obtain ⟨h1, h2, h3, a, e, h4, h7, h5⟩ := hr
      exact ⟨h1, by show c.ρ t < _; omega, fun o hx => h3 o ((hfu o).1 hx), a, e, by rw [show c'.ρ t = c.ρ t from rfl, hh]; exact h4, h7, fun i p q hp hq => ⟨hev.rv _ _ (h5 i p q hp hq).1, hev.rv _ _ (h5 i p q hp hq).2⟩⟩
  · obtain ⟨y, hy, hr⟩ := RVs_get hcs hx
    refine ⟨.inr (.inr rfl), y, ?_, hev.rv _ _ hr⟩
    simp only [World.cell?, hnew, Nat.zero_add]
    simpa using hy

/-- a store into a variable -/
theorem step_box (h : RH c H w) {t : Nat} {cs cs' : List V} (ht : H[t]? = some (.box cs)) {w' : World} (hs : w'.heap.size = w.heap.size) (ho : ∀ b, b ≠ c.ρ t → w'.heap[b]? = w.heap[b]?)
    {a : Array Value} {e : TypeId} (ha : w'.heap[c.ρ t]? = some (.cells a e (0, 0))) (hr : RVs c H w cs' a.toList) (hio : Outs w w' := by exact ⟨rfl, rfl⟩) :
    Evo c c H (H.set t (.box cs')) w w' ∧ RH c (H.set t (.box cs')) w' := by
  have hro := h.ob t _ ht
  simp only [RO] at hro
  obtain ⟨h1, h2, h3, _⟩ := hro
  have key := step_obj (hio := hio) (c := c) (c' := c) (H := H) (w := w) (w' := w') (t := t) (ob := .box cs) (ob' := .box cs') (E := fun _ _ => False) h ht (by simp) rfl rfl
    (fun _ _ => rfl) (.inl ⟨rfl, by simp⟩) (fun b hb _ => ho b hb) (by omega) (fun b o => by simp) (fun _ _ hx => hx.elim)
    (fun o hx => by
      rcases hx with hx | hx
      · exact absurd (Nat.le_trans h.base h1) (Nat.not_le_of_lt hx)
      · exact absurd hx (h3 o))
    (fun _ _ => ⟨⟨cs', rfl⟩, rfl⟩) (fun _ hx => by cases hx)
    (fun off len fin v hv => by obtain ⟨hsv, k, st, me, ds, h1, _⟩ := hv; rw [ht] at h1; cases h1)
    (fun off fin v hv => by obtain ⟨hsv, k, st, me, ds, h1, _⟩ := hv; rw [ht] at h1; cases h1)
  refine ⟨key.1, key.2 ?_⟩
  simp only [RO]
  exact ⟨h1, by omega, h3, a, e, ha, key.1.rvs _ _ hr⟩

/-- an entry of a map -/
theorem step_map (h : RH c H w) {t : Nat} {es es' : List (V × V)} (ht : H[t]? = some (.map es)) {w' : World} (hs : w'.heap.size = w.heap.size) (ho : ∀ b, b ≠ c.ρ t → w'.heap[b]? = w.heap[b]?)
    {ents : Array MapEntry} {n : Nat} (ha : w'.heap[c.ρ t]? = some (.map ents n)) (hl : es'.length = ents.size)
    (hr : ∀ (i : Nat) (p : V × V) (e : MapEntry), es'[i]? = some p → ents[i]? = some e → RV c H w p.1 e.key ∧ RV c H w p.2 e.val) (hio : Outs w w' := by exact ⟨rfl, rfl⟩) :
    Evo c c H (H.set t (.map es')) w w' ∧ RH c (H.set t (.map es')) w' := by
  have hro := h.ob t _ ht
  simp only [RO] at hro
  obtain ⟨h1, h2, h3, _⟩ := hro
  have key := step_obj (hio := hio) (c := c) (c' := c) (H := H) (w := w) (w' := w') (t := t) (ob := .map es) (ob' := .map es') (E := fun _ _ => False) h ht (by simp) rfl rfl
    (fun _ _ => rfl) (.inl ⟨rfl, by simp⟩) (fun b hb _ => ho b hb) (by omega) (fun b o => by simp) (fun _ _ hx => hx.elim)
    (fun o hx => by
      rcases hx with hx | hx
      · exact absurd (Nat.le_trans h.base h1) (Nat.not_le_of_lt hx)
      · exact absurd hx (h3 o))
    (fun _ hx => by cases hx) (fun _ _ => ⟨⟨es', rfl⟩, rfl⟩)
    (fun off len fin v hv => by obtain ⟨hsv, k, st, me, ds, h1, _⟩ := hv; rw [ht] at h1; cases h1)
    (fun off fin v hv => by obtain ⟨hsv, k, st, me, ds, h1, _⟩ := hv; rw [ht] at h1; cases h1)
  refine ⟨key.1, key.2 ?_⟩
  simp only [RO]
  exact ⟨h1, by omega, h3, ents, n, ha, hl, fun i p e hp he => ⟨key.1.rv _ _ (hr i p e hp he).1, key.1.rv _ _ (hr i p e hp he).2⟩⟩
end Go.Av
namespace Go.Av
variable {c : Ctx} {H : Heap} {w : World}

theorem RO.arr {t k st me} {cs : List V} (h : RH c H w) (ht : H[t]? = some (.arr k st me cs)) : c.low ≤ c.ρ t ∧ c.ρ t < w.heap.size ∧ (∀ o, c.fz (c.ρ t) o ↔ (st = false ∧ o < cs.length)) ∧ 0 < k ∧
    ∃ a e, (∃ fr, Thawed a fr ∧ w.heap[c.ρ t]? = some (.cells a e fr)) ∧ cs.length ≤ a.size ∧ RVs c H w cs (a.toList.take cs.length) := by
  have := h.ob t _ ht
  simpa only [RO] using this

theorem cell_at {w : World} {b : Nat} {a : Array Value} {e : TypeId} {fr : Nat × Nat} (h : w.heap[b]? = some (.cells a e fr)) (o : Nat) : w.cell? ⟨b, o, none⟩ = a[o]? := by
  simp [World.cell?, h]

theorem room_at {w : World} {b : Nat} {a : Array Value} {e : TypeId} {fr : Nat × Nat} (h : w.heap[b]? = some (.cells a e fr)) : room w b = a.size := by
  simp [room, h]

theorem mul_fin {fin fin2 k n : Nat} (hk : 0 < k) (h : fin * k = n) (h2 : fin2 * k ≤ n) (h3 : fin ≤ fin2) : fin2 = fin := by
  subst h
  exact Nat.le_antisymm (Nat.le_of_mul_le_mul_right h2 hk) h3

/-- a store into an array that is stored into, through a slice that ends where it ends -/
theorem step_arr (h : RH c H w) {t k me fin : Nat} {cs cs' : List V} (ht : H[t]? = some (.arr k true me cs)) (hfin : fin * k = cs.length) (hme : me ≤ fin) (hl : cs'.length = cs.length)
    {w' : World} (hs : w'.heap.size = w.heap.size) (ho : ∀ b, b ≠ c.ρ t → w'.heap[b]? = w.heap[b]?)
    {a' : Array Value} {e' : TypeId} {fr' : Nat × Nat} (hfr' : Thawed a' fr') (ha : w'.heap[c.ρ t]? = some (.cells a' e' fr')) (hsz : a'.size = room w (c.ρ t)) (hr : RVs c H w cs' (a'.toList.take cs'.length)) (hio : Outs w w' := by exact ⟨rfl, rfl⟩) :
    Evo c c H (H.set t (.arr k true fin cs')) w w' ∧ RH c (H.set t (.arr k true fin cs')) w' := by
  have htl : t < H.length := (List.getElem?_eq_some_iff.1 ht).1
  obtain ⟨h1, h2, h3, hk, a, e, ⟨fr, hfr, h4⟩, h5, h6⟩ := RO.arr h ht
  have hroom : room w' (c.ρ t) = room w (c.ρ t) := by rw [room_at ha, hsz]
  have key := step_obj (hio := hio) (c := c) (c' := c) (H := H) (w := w) (w' := w') (t := t) (ob' := .arr k true fin cs') (E := fun _ _ => False) h ht (by simp) rfl rfl
    (fun _ _ => rfl) (.inl ⟨rfl, by simp⟩) (fun b hb _ => ho b hb) (by omega) (fun b o => by simp) (fun _ _ hx => hx.elim)
    (fun o hx => by
      rcases hx with hx | hx
      · exact absurd (Nat.le_trans h.base h1) (Nat.not_le_of_lt hx)
      · have := (h3 o).1 hx; simp at this)
    (fun _ hx => by cases hx) (fun _ hx => by cases hx)
    (fun off len fin2 v hv => by
      obtain ⟨hsv, k2, st2, me2, ds, g1, g2, g3⟩ := hv
      rw [ht] at g1; cases g1
      refine ⟨hsv, k, true, fin, cs', by simp [htl], by rw [hl]; exact g2, fun hm => ?_⟩
      have hf := mul_fin hk hfin g2 hm
      subst hf
      obtain ⟨b, o, cap, g4, g5, g6, g7, g8⟩ := g3 hme
      have g9 := g7.2 hfin
      exact ⟨b, o, cap, g4, g5, g6, ⟨.inl g9, fun _ => g9⟩, fun _ => by rw [hroom]; exact g8 hfin⟩)
    (fun off fin2 v hv => by
      obtain ⟨hsv, k2, st2, me2, ds, g1, g2, g3⟩ := hv
      rw [ht] at g1; cases g1
      refine ⟨hsv, k, true, fin, cs', by simp [htl], by rw [hl]; exact g2, fun hm => ?_⟩
      have hf := mul_fin hk hfin g2 hm
      subst hf
      obtain ⟨b, o, g4, g7⟩ := g3 hme
      have g9 := g7.2 hfin
      exact ⟨b, o, g4, ⟨.inl g9, fun _ => g9⟩⟩)
  refine ⟨key.1, key.2 ?_⟩
  simp only [RO]
  refine ⟨h1, by omega, fun o => ?_, hk, a', e', ⟨fr', hfr', ha⟩, ?_, key.1.rvs _ _ hr⟩
  · rw [h3 o]; simp
  · rw [hsz, room_at h4, hl]; exact h5

/-- an append that finds room -/
theorem step_push (h : RH c H w) {t k me : Nat} {st : Bool} {cs new : List V} (ht : H[t]? = some (.arr k st me cs))
    {w' : World} (hs : w'.heap.size = w.heap.size) (ho : ∀ b, b ≠ c.ρ t → w'.heap[b]? = w.heap[b]?)
    {a' : Array Value} {e' : TypeId} {fr' : Nat × Nat} (hfr' : Thawed a' fr') (ha : w'.heap[c.ρ t]? = some (.cells a' e' fr')) (hsz : a'.size = room w (c.ρ t)) (hfit : (cs ++ new).length ≤ a'.size)
    (hold : ∀ o, o < cs.length → w'.cell? ⟨c.ρ t, o, none⟩ = w.cell? ⟨c.ρ t, o, none⟩) (hr : RVs c H w (cs ++ new) (a'.toList.take (cs ++ new).length)) (hio : Outs w w' := by exact ⟨rfl, rfl⟩) :
    ∃ c', c'.ρ = c.ρ ∧ Evo c c' H (H.set t (.arr k st me (cs ++ new))) w w' ∧ RH c' (H.set t (.arr k st me (cs ++ new))) w' := by
  have htl : t < H.length := (List.getElem?_eq_some_iff.1 ht).1
  obtain ⟨h1, h2, h3, hk, a, e, ⟨fr, hfr, h4⟩, h5, h6⟩ := RO.arr h ht
  have hroom : room w' (c.ρ t) = room w (c.ρ t) := by rw [room_at ha, hsz]
  let c' : Ctx := { base := c.base, low := c.low, fz := fun b o => c.fz b o ∨ (b = c.ρ t ∧ st = false ∧ cs.length ≤ o ∧ o < (cs ++ new).length), ρ := c.ρ }
  have hfr : ∀ {b o}, c.frz b o → c'.frz b o := fun hx => hx.imp id .inl
  have hcell : ∀ b o, c.frz b o → w'.cell? ⟨b, o, none⟩ = w.cell? ⟨b, o, none⟩ := fun b o hx => by
    by_cases hb : b = c.ρ t
    · subst hb
      rcases hx with hx | hx
      · exact absurd (Nat.le_trans h.base h1) (Nat.not_le_of_lt hx)
      · exact hold o ((h3 o).1 hx).2
    · exact cell_congr (ho b hb) o
  have hpos : ∀ p f b o, f ≤ cs.length → Pos c w t p f cs.length b o → Pos c' w' t p f (cs ++ new).length b o := by
    intro p f b o hf hp
    refine ⟨hp.1.imp id fun hx i hi => ⟨hfr (hx i hi).1, ?_⟩, fun he => hp.2 (by simp at he; omega)⟩
    rw [hcell _ _ (hx i hi).1, show c'.ρ t = c.ρ t from rfl, hold (p + i) (by omega)]
    exact (hx i hi).2
  have key := step_obj (hio := hio) (c := c) (c' := c') (H := H) (w := w) (w' := w') (t := t) (ob' := .arr k st me (cs ++ new)) (E := fun b o => b = c.ρ t ∧ st = false ∧ cs.length ≤ o ∧ o < (cs ++ new).length) h ht (by simp) rfl rfl
    (fun _ _ => rfl) (.inl ⟨rfl, by simp⟩) (fun b hb _ => ho b hb) (by omega) (fun b o => Iff.rfl)
    (fun b o hx => ⟨by rw [hx.1]; exact h1, by rw [hx.1]; omega, fun u o' hu hu' hn he => hu (h.inj u t o' _ hu' ht hn (by simp) (by rw [← he, hx.1])), .inl ⟨hx.1, by simp⟩⟩)
    (fun o hx => hcell _ o hx)
    (fun _ hx => by cases hx) (fun _ hx => by cases hx)
    (fun off len fin2 v hv => by
      obtain ⟨hsv, k2, st2, me2, ds, g1, g2, g3⟩ := hv
      rw [ht] at g1; cases g1
      refine ⟨hsv, k, st, me, cs ++ new, by simp [htl], by simp; omega, fun hm => ?_⟩
      obtain ⟨b, o, cap, g4, g5, g6, g7, g8⟩ := g3 hm
      exact ⟨b, o, cap, g4, g5, g6, hpos _ _ _ _ g2 g7, fun he => by rw [show c'.ρ t = c.ρ t from rfl, hroom]; exact g8 (by simp at he; omega)⟩)
    (fun off fin2 v hv => by
      obtain ⟨hsv, k2, st2, me2, ds, g1, g2, g3⟩ := hv
      rw [ht] at g1; cases g1
      refine ⟨hsv, k, st, me, cs ++ new, by simp [htl], by simp; omega, fun hm => ?_⟩
      obtain ⟨b, o, g4, g7⟩ := g3 hm
      exact ⟨b, o, g4, hpos _ _ _ _ g2 g7⟩)
  refine ⟨c', rfl, key.1, key.2 ?_⟩
  simp only [RO]
  refine ⟨h1, by show c.ρ t < _; omega, fun o => ?_, hk, a', e', ⟨fr', hfr', ha⟩, hfit, key.1.rvs _ _ hr⟩
  show (c.fz (c.ρ t) o ∨ _) ↔ _
  rw [h3 o]
  constructor
  · rintro (⟨hx, hy⟩ | ⟨_, hx, hy, hz⟩)
    · exact ⟨hx, by simp; omega⟩
    · exact ⟨hx, hz⟩
  · rintro ⟨hx, hy⟩
    rcases Nat.lt_or_ge o cs.length with hl | hl
    · exact .inl ⟨hx, hl⟩
    · exact .inr ⟨rfl, hx, hl, hy⟩

/-- an append into a new block -/
theorem step_grow (h : RH c H w) {t k me : Nat} {st : Bool} {cs new : List V} (ht : H[t]? = some (.arr k st me cs)) (hne : 0 < new.length)
    {w' : World} {a' : Array Value} {e' : TypeId} (hw : w'.heap = w.heap.push (.cells a' e' (0, 0))) (hfit : (cs ++ new).length ≤ a'.size)
    (hold : ∀ o, o < cs.length → a'[o]? = w.cell? ⟨c.ρ t, o, none⟩) (hr : RVs c H w (cs ++ new) (a'.toList.take (cs ++ new).length)) (hio : Outs w w' := by exact ⟨rfl, rfl⟩) :
    ∃ c', c'.ρ t = w.heap.size ∧ Evo c c' H (H.set t (.arr k st me (cs ++ new))) w w' ∧ RH c' (H.set t (.arr k st me (cs ++ new))) w' := by
  have htl : t < H.length := (List.getElem?_eq_some_iff.1 ht).1
  obtain ⟨h1, h2, h3, hk, a, e, ⟨fr, hfr, h4⟩, h5, h6⟩ := RO.arr h ht
  have hnew : w'.heap[w.heap.size]? = some (.cells a' e' (0, 0)) := by rw [hw]; simp
  have holdb : ∀ b : Nat, b < w.heap.size → w'.heap[b]? = w.heap[b]? := fun b hb => by rw [hw, Array.getElem?_push]; simp [Nat.ne_of_lt hb]
  have hsz : w'.heap.size = w.heap.size + 1 := by rw [hw]; simp
  let E : Nat → Nat → Prop := fun b o => (b = c.ρ t ∧ o < cs.length) ∨ (b = w.heap.size ∧ st = false ∧ o < (cs ++ new).length)
  let c' : Ctx := { base := c.base, low := c.low, fz := fun b o => c.fz b o ∨ E b o, ρ := fun u => if u = t then w.heap.size else c.ρ u }
  have hρt : c'.ρ t = w.heap.size := by simp [c']
  have hnofz : ∀ o, ¬ c.fz w.heap.size o := fun o hx => Nat.lt_irrefl _ (h.fz _ o hx)
  have hfr : ∀ {b o}, c.frz b o → c'.frz b o := fun hx => hx.imp id .inl
  have hl : ∀ {b o}, c.frz b o → b < w.heap.size := fun hx => hx.elim (fun hx => Nat.lt_of_lt_of_le hx (Nat.le_trans h.base h.low)) fun hx => h.fz _ _ hx
  have hcopy : ∀ o, o < cs.length → w'.cell? ⟨w.heap.size, o, none⟩ = w.cell? ⟨c.ρ t, o, none⟩ := fun o ho => by rw [cell_at hnew]; exact hold o ho
  have hpos : ∀ p f b o, f ≤ cs.length → Pos c w t p f cs.length b o → Pos c' w' t p f (cs ++ new).length b o := by
    intro p f b o hf hp
    refine ⟨.inr fun i hi => ?_, fun he => by simp at he; omega⟩
    rw [hρt, hcopy (p + i) (by omega)]
    rcases hp.1 with ⟨rfl, rfl⟩ | hx
    · exact ⟨.inr (.inr (.inl ⟨rfl, by omega⟩)), cell_congr (holdb _ h2) _⟩
    · exact ⟨hfr (hx i hi).1, by rw [cell_congr (holdb _ (hl (hx i hi).1))]; exact (hx i hi).2⟩
  have key := step_obj (hio := hio) (c := c) (c' := c') (H := H) (w := w) (w' := w') (t := t) (ob' := .arr k st me (cs ++ new)) (E := E) h ht (by simp) rfl rfl
    (fun u hu => by simp [c', hu]) (.inr hρt) (fun b hb hlt => holdb b hlt) (by omega) (fun b o => Iff.rfl)
    (fun b o hx => by
      rcases hx with hx | hx
      · exact ⟨by rw [hx.1]; exact h1, by rw [hx.1]; omega, fun u o' hu hu' hn he => hu (h.inj u t o' _ hu' ht hn (by simp) (by rw [← he, hx.1])), .inl ⟨hx.1, by simp⟩⟩
      · exact ⟨by have := h.low; omega, by omega, fun u o' hu hu' hn he => by have := ((h.ob u o' hu').low hn).2; omega, .inr (by omega)⟩)
    (fun o hx => by
      rw [hρt] at hx
      exact absurd (hl hx) (Nat.lt_irrefl _))
    (fun _ hx => by cases hx) (fun _ hx => by cases hx)
    (fun off len fin2 v hv => by
      obtain ⟨hsv, k2, st2, me2, ds, g1, g2, g3⟩ := hv
      rw [ht] at g1; cases g1
      refine ⟨hsv, k, st, me, cs ++ new, by simp [htl], by simp; omega, fun hm => ?_⟩
      obtain ⟨b, o, cap, g4, g5, g6, g7, g8⟩ := g3 hm
      exact ⟨b, o, cap, g4, g5, g6, hpos _ _ _ _ g2 g7, fun he => by simp at he; omega⟩)
    (fun off fin2 v hv => by
      obtain ⟨hsv, k2, st2, me2, ds, g1, g2, g3⟩ := hv
      rw [ht] at g1; cases g1
      refine ⟨hsv, k, st, me, cs ++ new, by simp [htl], by simp; omega, fun hm => ?_⟩
      obtain ⟨b, o, g4, g7⟩ := g3 hm
      exact ⟨b, o, g4, hpos _ _ _ _ g2 g7⟩)
  refine ⟨c', hρt, key.1, key.2 ?_⟩
  simp only [RO]
  refine ⟨by rw [hρt]; exact h.low, by rw [hρt]; omega, fun o => ?_, hk, a', e', ⟨(0, 0), .inl (Nat.le_refl 0), by rw [hρt]; exact hnew⟩, hfit, key.1.rvs _ _ hr⟩
  rw [hρt]
  show (c.fz w.heap.size o ∨ E w.heap.size o) ↔ _
  constructor
  · rintro (hx | hx | hx)
    · exact absurd hx (hnofz o)
    · omega
    · exact hx.2
  · exact fun hx => .inr (.inr ⟨rfl, hx⟩)
end Go.Av
