/-
  Operations that look at temporaries alone, on abstract values; soundness.
-/
import Derived.Test.YtnkealmacacipaaAbs1
namespace Go.Pa
set_option linter.unusedSectionVars false
variable [GTab]

inductive ERA where
  | no
  | val (v : AV)
  | need (p : Prop) (v : AV)

/-- What holds of a yes. -/
def ERA.says : ERA → AV → Prop
  | .no, _ => False
  | .val v, u => u = v
  | .need p v, u => p ∧ u = v

def iand (k : IntKind) (a b : Int) : Int := k.wrap ((BitVec.ofInt k.bits a &&& BitVec.ofInt k.bits b).toNat : Nat)
def ior (k : IntKind) (a b : Int) : Int := k.wrap ((BitVec.ofInt k.bits a ||| BitVec.ofInt k.bits b).toNat : Nat)
def ixor (k : IntKind) (a b : Int) : Int := k.wrap ((BitVec.ofInt k.bits a ^^^ BitVec.ofInt k.bits b).toNat : Nat)
def iandnot (k : IntKind) (a b : Int) : Int := k.wrap ((BitVec.ofInt k.bits a &&& ~~~BitVec.ofInt k.bits b).toNat : Nat)
def ishl (k : IntKind) (a b : Int) : Int := k.wrap (a * 2 ^ (min b.toNat k.bits))
def ishr (k : IntKind) (a b : Int) : Int := a.fdiv (2 ^ (min b.toNat k.bits))
def inot (k : IntKind) (a : Int) : Int := ixor k (if k.signed then -1 else k.max) a

def intOp (op : BinOp) (k : IntKind) (a b : Int) : ERA :=
  match op with
  | .add => .val (.int k (k.wrap (a + b)))
  | .sub => .val (.int k (k.wrap (a - b)))
  | .mul => .val (.int k (k.wrap (a * b)))
  | .quo => .need (b ≠ 0) (.int k (k.wrap (a.tdiv b)))
  | .rem => .need (b ≠ 0) (.int k (a.tmod b))
  | .and => .val (.int k (iand k a b))
  | .or => .val (.int k (ior k a b))
  | .xor => .val (.int k (ixor k a b))
  | .andNot => .val (.int k (iandnot k a b))
  | .eql => .val (.bool (decide (a = b)))
  | .neq => .val (.bool (!decide (a = b)))
  | .lss => .val (.bool (decide (a < b)))
  | .leq => .val (.bool (decide (a ≤ b)))
  | .gtr => .val (.bool (decide (b < a)))
  | .geq => .val (.bool (decide (b ≤ a)))
  | _ => .no

def eqCells (P : Program) (xs ys : List AV) : List Field → Option Bool
  | [] => some true
  | f :: fs =>
    if f.name = "_" then none else
    match P.underlying f.type, xs[f.offset]?, ys[f.offset]?, eqCells P xs ys fs with
    | some (.int _), some (.int k a), some (.int k' b), some r => if k = k' then some (decide (a = b) && r) else none
    | some .bool, some (.bool a), some (.bool b), some r => some (decide (a = b) && r)
    | some .string, some (.str a), some (.str b), some r => some (decide (a = b) && r)
    | _, _, _, _ => none

def eqAgg (P : Program) (t : TypeId) (xs ys : List AV) : Option Bool :=
  match P.underlying t with
  | some (.struct fs) => if P.stoodInHeld t = false ∧ P.eqGuardType P.depth t = false then eqCells P xs ys fs.toList else none
  | _ => none

def strOp (op : BinOp) (a b : List Int) : ERA :=
  match op with
  | .add => .need (a.length + b.length ≤ 9223372036854775807) (.str (a ++ b))
  | .eql => .val (.bool (decide (a = b)))
  | .neq => .val (.bool (!decide (a = b)))
  | _ => .no

/-- A comparison with nil: on what condition, and how it falls out. -/
def nilOf (P : Program) (t : TypeId) (x y : AV) : Option (Prop × Bool) :=
  match P.underlying t, x, y with
  | some (.pointer _), .nilp, .nilp => some (True, true)
  | some (.pointer _), .ptr _ _, .nilp => some (True, false)
  | some (.pointer _), .eptr _ _ _ _, .nilp => some (True, false)
  | some (.pointer _), .iptr _, .nilp => some (True, false)
  | some (.slice _), .nils, .nils => some (True, true)
  | some (.slice _), .emp, .nils => some (True, false)
  | some (.slice _), .mvec _ _ _ _, .nils => some (True, false)
  | some (.slice _), .ints _ l, .nils => some (l ≠ [], false)
  | some (.slice _), .rows _ l, .nils => some (l ≠ [], false)
  | some (.map _ _), .nilm, .nilm => some (True, true)
  | some (.map _ _), .mp _, .nilm => some (True, false)
  | some (.func _ _ _), .nilf, .nilf => some (True, true)
  | some (.func _ _ _), .fn _ _ _, .nilf => some (True, false)
  | _, _, _ => none

def nilA (P : Program) (op : BinOp) (t : TypeId) (x y : AV) : ERA :=
  match nilOf P t x y, op with
  | some (p, b), .eql => .need p (.bool b)
  | some (p, b), .neq => .need p (.bool (!b))
  | _, _ => .no

def evBin (P : Program) (op : BinOp) (t : TypeId) (x y : AV) : ERA :=
  match x, y with
  | .int k a, .int k' b =>
    match op with
    | .shl => .need (0 ≤ b) (.int k (ishl k a b))
    | .shr => .need (0 ≤ b) (.int k (ishr k a b))
    | op => if k = k' then intOp op k a b else .no
  | .bool a, .bool b =>
    match P.underlying t, op with
    | some .bool, .eql => .val (.bool (a == b))
    | some .bool, .neq => .val (.bool (!(a == b)))
    | _, _ => .no
  | .str a, .str b => strOp op a b
  | .agg xs, .agg ys =>
    match eqAgg P t xs ys, op with
    | some r, .eql => .val (.bool r)
    | some r, .neq => .val (.bool (!r))
    | _, _ => .no
  | x, y => nilA P op t x y

def evUn (op : UnOp) (x : AV) : ERA :=
  match op, x with
  | .neg, .int k n => .val (.int k (k.wrap (0 - n)))
  | .xor, .int k n => .val (.int k (inot k n))
  | .not, .bool b => .val (.bool (!b))
  | _, _ => .no

/-- All are bytes. -/
def U8s (l : List Int) : Prop := ∀ x ∈ l, 0 ≤ x ∧ x < 256

def evConv (P : Program) (src dst : TypeId) (x : AV) : ERA :=
  match P.underlying src, P.underlying dst, x with
  | some _, some (.int k), .int _ n => .val (.int k (k.wrap n))
  | some _, some .string, .str l => .val (.str l)
  | some .string, some (.slice e), .str l =>
    match P.underlying e with
    | some (.int .u8) => .need (l.length ≤ 9223372036854775807) (.ints .u8 l)
    | _ => .no
  | some (.slice e), some .string, .ints .u8 l =>
    match P.underlying e with
    | some (.int .u8) => .need (U8s l) (.str l)
    | _ => .no
  | some (.slice e), some .string, .nils =>
    match P.underlying e with
    | some (.int .u8) => .val (.str [])
    | _ => .no
  | _, _, _ => .no

def Agg (P : Program) (t : TypeId) : Bool :=
  match P.underlying t with
  | some (.struct _) | some (.array _ _) => true
  | _ => false

/-- A part of a list of cells, as a value of a type. -/
def partA (P : Program) (t : TypeId) (cs : List AV) : Option AV :=
  match P.underlying t with
  | none => none
  | some (.struct _) | some (.array _ _) => if (cs.take (P.cellsOf t)).length = P.cellsOf t ∧ 0 < P.cellsOf t then some (.agg (cs.take (P.cellsOf t))) else none
  | some _ => match cs with
    | [] => none
    | c :: _ => some c

def fieldOff (P : Program) (t : TypeId) (f : Nat) : Option (Nat × TypeId) :=
  match P.underlying t with
  | some (.struct fs) => match fs[f]? with
    | some x => if P.cellsOf x.type = 0 then none else some (x.offset, x.type)
    | none => none
  | _ => none

def evField (P : Program) (t : TypeId) (x : AV) (f : Nat) : ERA :=
  match x, fieldOff P t f with
  | .agg cs, some (o, ft) => match partA P ft (cs.drop o) with
    | some v => .val v
    | none => .no
  | _, _ => .no

def evFieldAddr (P : Program) (t : TypeId) (x : AV) (f : Nat) : ERA :=
  match x, fieldOff P t f with
  | .iptr cs, some (o, _) => .val (.iptr (cs.drop o))
  | .ptr id a, some (o, _) => .val (.ptr id (a + o))
  | .eptr id i sz a, some (o, _) => .val (.eptr id i sz (a + o))
  | _, _ => .no

/-- The type has a zero value of the right size. -/
def zeroOk (P : Program) (t : TypeId) : Bool :=
  match P.info? t with
  | some i => match i.zero with
    | some z => z.cells.size == i.size && z.cells.toList.all (·.oneCell')
    | none => false
  | none => false

def sliceElem (P : Program) (t : TypeId) : Option (TypeId × Nat) :=
  match P.underlying t with
  | some (.slice e) => if P.cellsOf e = 0 ∨ zeroOk P e = false then none else some (e, P.cellsOf e)
  | _ => none

/-- An array's type. -/
def arrElem (P : Program) (t : TypeId) : Option (Nat × Nat) :=
  match P.underlying t with
  | some (.array m e) => if P.cellsOf e = 0 then none else some (m, P.cellsOf e)
  | _ => none

def evIndexArr (P : Program) (t : TypeId) (x : AV) (n : Int) : ERA :=
  match arrElem P t, x with
  | some (m, sz), .iptr cs => .need (0 ≤ n ∧ n < m) (.iptr (cs.drop (n.toNat * sz)))
  | some (m, sz), .ptr id off => .need (0 ≤ n ∧ n < m) (.ptr id (off + n.toNat * sz))
  | some (m, sz), .eptr id j s off => .need (0 ≤ n ∧ n < m) (.eptr id j s (off + n.toNat * sz))
  | _, _ => .no

def evIndexAddr (P : Program) (t : TypeId) (x i : AV) : ERA :=
  match i with
  | .int _ n =>
    match sliceElem P t, x with
    | some (_, sz), .ints k l => if sz = 1 then .need (0 ≤ n ∧ n < l.length) (.iptr [.int k (l.getD n.toNat 0)]) else .no
    | some (_, sz), .rows sz' rs => if sz = sz' then .need (0 ≤ n ∧ n < rs.length) (.iptr (rs.getD n.toNat [])) else .no
    | some (_, sz), .mvec id off len sz' => if sz = sz' then .need (0 ≤ n ∧ n < len) (.eptr id (off + n.toNat) sz 0) else .no
    | none, x => evIndexArr P t x n
    | _, _ => .no
  | _ => .no

def evIndex (P : Program) (t : TypeId) (x i : AV) : ERA :=
  match i, P.underlying t, x with
  | .int _ n, some .string, .str l => .need (0 ≤ n ∧ n < l.length) (.int .u8 (l.getD n.toNat 0))
  | _, _, _ => .no

def bnd (d : Int) : Option AV → Option Int
  | none => some d
  | some (.int _ n) => some n
  | _ => none

def evSlice (P : Program) (t : TypeId) (x : AV) (lo hi mx : Option AV) : ERA :=
  match mx with
  | some (.int _ 0) =>
    match lo, hi, sliceElem P t, x with
    | none, some (.int _ 0), some _, .ints _ l => .need (l ≠ []) .emp
    | none, some (.int _ 0), some _, .rows _ l => .need (l ≠ []) .emp
    | none, some (.int _ 0), some _, .mvec .. => .val .emp
    | none, some (.int _ 0), some _, .nils => .val .nils
    | none, some (.int _ 0), some _, .emp => .val .emp
    | _, _, _, _ => .no
  | some _ => .no
  | none =>
    match P.underlying t, x with
    | some .string, .str l => match bnd 0 lo, bnd l.length hi with
      | some a, some b => .need (0 ≤ a ∧ a ≤ b ∧ b ≤ l.length) (.str ((l.drop a.toNat).take (b.toNat - a.toNat)))
      | _, _ => .no
    | some (.slice e), .ints k l => match bnd 0 lo, bnd l.length hi with
      | some a, some b => if P.cellsOf e = 1 then .need (0 ≤ a ∧ a ≤ b ∧ b ≤ l.length) (.ints k ((l.drop a.toNat).take (b.toNat - a.toNat))) else .no
      | _, _ => .no
    | some (.slice e), .rows sz l => match bnd 0 lo, bnd l.length hi with
      | some a, some b => if P.cellsOf e = sz ∧ 0 < sz then .need (0 ≤ a ∧ a ≤ b ∧ b ≤ l.length) (.rows sz ((l.drop a.toNat).take (b.toNat - a.toNat))) else .no
      | _, _ => .no
    | some (.slice e), .mvec id off len sz => match bnd 0 lo, bnd len hi with
      | some a, some b => if P.cellsOf e = sz ∧ 0 < sz then .need (0 ≤ a ∧ a ≤ b ∧ b ≤ len ∧ a < len) (.mvec id (off + a.toNat) (b.toNat - a.toNat) sz) else .no
      | _, _ => .no
    | _, _ => .no

def lenA : AV → Option Int
  | .str l | .ints _ l => some l.length
  | .rows _ l => some l.length
  | .mvec _ _ n _ => some n
  | .nils | .emp => some 0
  | _ => none

def evLen (P : Program) (t : TypeId) (x : AV) : ERA :=
  match P.underlying t, x with
  | some (.array n _), _ => .val (.int .i64 n)
  | some .string, .str l => .val (.int .i64 l.length)
  | some (.slice _), .ints _ l => .val (.int .i64 l.length)
  | some (.slice _), .rows _ l => .val (.int .i64 l.length)
  | some (.slice _), .mvec _ _ n _ => .val (.int .i64 n)
  | some (.slice _), .nils => .val (.int .i64 0)
  | some (.slice _), .emp => .val (.int .i64 0)
  | _, _ => .no

def evPick (c a b : AV) : ERA :=
  match c with
  | .bool true => .val a
  | .bool false => .val b
  | _ => .no

def evExtract (x : AV) (i : Nat) : ERA :=
  match x with
  | .tup cs => match cs[i]? with
    | some v => .val v
    | none => .no
  | _ => .no

def evNilCheck (x : AV) : ERA :=
  match x with
  | .ptr a b => .val (.ptr a b)
  | .eptr a b c d => .val (.eptr a b c d)
  | .iptr cs => .val (.iptr cs)
  | .glob g => .val (.glob g)
  | .fn f a b => .val (.fn f a b)
  | _ => .no

def evMin (x y : AV) : ERA :=
  match x, y with
  | .int k a, .int _ b => .val (.int k (min a b))
  | _, _ => .no
def evMax (x y : AV) : ERA :=
  match x, y with
  | .int k a, .int _ b => .val (.int k (max a b))
  | _, _ => .no

/-- A load through a pointer into what never turns. -/
def evLoadI (P : Program) (t : TypeId) (x : AV) : ERA :=
  match x with
  | .iptr cs => match partA P t cs with
    | some v => .val v
    | none => .no
  | _ => .no

/-- One cell. -/
def AV.cell : AV → Bool
  | .any | .agg _ | .tup _ => false
  | _ => true

/-- The cells of a value that may be stored. -/
def AV.cellsOf : AV → Option (List AV)
  | .agg cs => if cs.all AV.cell then some cs else none
  | .any | .tup _ => none
  | v => some [v]

def partsOne (sz : Nat) : List (Nat × AV) → Nat → Option (List (List AV))
  | [], _ => some []
  | (i, v) :: r, k => if i = k then match v.cellsOf, partsOne sz r (k + 1) with
      | some cs, some rest => if cs.length = sz then some (cs :: rest) else none
      | _, _ => none
    else none

def intsOf (k : IntKind) : List (List AV) → Option (List Int)
  | [] => some []
  | [.int k' n] :: r => if k = k' then (match intsOf k r with | some l => some (n :: l) | none => none) else none
  | _ => none

/-- The rows of a literal slice, as integers if they are. -/
def rowsAV (sz : Nat) (rs : List (List AV)) : AV :=
  match rs with
  | [.int k _] :: _ => match intsOf k rs with
    | some l => .ints k l
    | none => .rows sz rs
  | _ => .rows sz rs

def evBuildSlice (P : Program) (t : TypeId) (len : Nat) (ps : List (Nat × AV)) : ERA :=
  match sliceElem P t with
  | some (_, sz) =>
    if len = 0 then (if ps.length = 0 then .val .emp else .no)
    else if ps.length = len ∧ len * sz ≤ 16777216 then match partsOne sz ps 0 with
      | some rs => .val (rowsAV sz rs)
      | none => .no
    else .no
  | none => .no

/-- The zero value's cells. -/
def zeroA (P : Program) (t : TypeId) : Option (List AV) :=
  match P.info? t with
  | some i => match i.zero with
    | some z => some (z.cells.toList.map ofCell)
    | none => none
  | none => none

def splice (cs : List AV) (o : Nat) (xs : List AV) : List AV := cs.take o ++ xs ++ cs.drop (o + xs.length)

/-- Where a part of a composite literal goes. -/
def placesA (P : Program) (t : TypeId) : Option (List (Nat × Nat)) :=
  match P.underlying t with
  | some (.struct fs) => some (fs.toList.map fun f => (f.offset, P.cellsOf f.type))
  | some (.array n e) => if P.cellsOf e = 0 then none else some ((List.range n).map fun i => (i * P.cellsOf e, P.cellsOf e))
  | _ => none

def fillA (pl : List (Nat × Nat)) : List AV → List (Nat × AV) → Option (List AV)
  | cs, [] => some cs
  | cs, (i, v) :: r => match pl[i]?, v.cellsOf with
    | some (o, sz), some xs => if xs.length = sz ∧ o + sz ≤ cs.length then fillA pl (splice cs o xs) r else none
    | _, _ => none

def evBuild (P : Program) (t : TypeId) (ps : List (Nat × AV)) : ERA :=
  match placesA P t, zeroA P t with
  | some pl, some z => if pl.all (fun p => decide (0 < p.2)) then match fillA pl z ps with
      | some cs => .val (.agg cs)
      | none => .no
    else .no
  | _, _ => .no

def evBuiltin (P : Program) (b : Builtin) (ts : List TypeId) (xs : List AV) : ERA :=
  match b, ts, xs with
  | .len, [t], [x] => evLen P t x
  | .min, [_, _], [x, y] => evMin x y
  | .max, [_, _], [x, y] => evMax x y
  | _, _, _ => .no

/-- Operations that look at temporaries alone. -/
def evA (P : Program) (env : Env) : Op → ERA
  | .move x => .val (evO env x)
  | .assign x => .val (evO env x)
  | .pick c a b => evPick (evO env c) (evO env a) (evO env b)
  | .nilCheck x => evNilCheck (evO env x)
  | .binOp op t x y _ => evBin P op t (evO env x) (evO env y)
  | .unOp op _ x => evUn op (evO env x)
  | .convert s d x => evConv P s d (evO env x)
  | .field t x f => evField P t (evO env x) f
  | .fieldAddr t x f => evFieldAddr P t (evO env x) f
  | .indexAddr t x i => evIndexAddr P t (evO env x) (evO env i)
  | .index t x i => evIndex P t (evO env x) (evO env i)
  | .slice t x lo hi mx => evSlice P t (evO env x) (lo.map (evO env)) (hi.map (evO env)) (mx.map (evO env))
  | .extract x i => evExtract (evO env x) i
  | .load t x => evLoadI P t (evO env x)
  | .makeFunc (.func f) fs cs => .val (.fn f (fs.toList.map (evO env)) (cs.toList.map (evO env)))
  | .build t ps => evBuild P t (ps.toList.map fun p => (p.1, evO env p.2))
  | .buildSlice t n ps => evBuildSlice P t n (ps.toList.map fun p => (p.1, evO env p.2))
  | .call { callee := .builtin b, args := xs, argTypes := ts } => evBuiltin P b ts.toList (xs.toList.map (evO env))
  | _ => .no

end Go.Pa
