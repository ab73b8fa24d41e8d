/-
  OWN WORK. THE ENGINE, part A: definitions. A symbolic run of the model's code as a plain Lean function into Prop.
  Values are shallow (Lean terms for integers, bools, strings), memory is a list of entries; pointers carry a tag for look-up.
-/
import Derived.Test.YtnibcchhhebfaaaGreatDoorRows
import Derived.WalkKit
import Derived.ProofKit
import Derived.Deep.Quiet
import Derived.Below
/-- A string of bytes that are said as integers. -/
def Byt.of (f : Nat → Int) (n : Nat) : List UInt8 := (List.range n).map fun k => UInt8.ofNat (f k).toNat
namespace Eng
open Go
set_option linter.unusedVariables false
universe u

/-- A step of a path into memory: element i of a row of elements of wd cells; field k, at o cells behind the struct's beginning. -/
inductive PS where
  | elt (i wd : Nat)
  | fld (k o : Nat)

def PS.off : PS → Nat
  | .elt i wd => i * wd
  | .fld _ o => o
def pathOff : List PS → Nat
  | [] => 0
  | s :: r => s.off + pathOff r

/-- A symbolic value. -/
inductive SV where
  | int (k : IntKind) (x : Int)
  | bool (b : Bool)
  | str (l : List UInt8)
  | ptr (g b off : Nat) (p : List PS)
  | slice (g b off : Nat) (p : List PS) (wd i n c : Nat) (z : Bool)
  | fn (f : Fn) (first captured : List SV)
  | agg (l : List SV)
  | arr (n wd : Nat) (get : Nat → SV)
  | tup (l : List SV)
  | iface (t : TypeId) (v : SV)
  | map (g b i : Nat)
  | val (v : Value)
  /- a slice that was found in memory: where its room is 0 its address may be any -/
  | wsl (g b off : Nat) (p : List PS) (wd n c : Nat) (z : Bool) (sp : Option Nat)
  /- what a map holds: which keys, and what stands there; it takes no cells; it stands in families alone -/
  | mobj (has : Int → Bool) (get : Int → SV)

mutual
def SV.flat : SV → List Value
  | .int k x => [.int k x]
  | .bool b => [.bool b]
  | .str l => [.string ⟨l.toArray⟩]
  | .ptr _ b off p => [.pointer (some ⟨b, off + pathOff p, none⟩)]
  | .slice _ b off p wd i n c z => [.slice (if z then none else some ⟨b, off + (pathOff p + i * wd), none⟩) n c]
  | .fn f x y => [.func f (SV.denL x).toArray (SV.denL y).toArray]
  | .agg l => SV.flatL l
  | .arr n _ get => (List.range n).flatMap fun i => (get i).flat
  | .tup l => [.tuple (SV.denL l).toArray]
  | .iface t v => [.iface t v.den]
  | .map _ b _ => [.map (some b)]
  | .val v => [v]
  | .wsl _ b off p _ n c z sp => [.slice (if z then none else some ⟨b, off + pathOff p, sp⟩) n c]
  | .mobj _ _ => []
def SV.flatL : List SV → List Value
  | [] => []
  | v :: r => v.flat ++ SV.flatL r
def SV.den : SV → Value
  | .int k x => .int k x
  | .bool b => .bool b
  | .str l => .string ⟨l.toArray⟩
  | .ptr _ b off p => .pointer (some ⟨b, off + pathOff p, none⟩)
  | .slice _ b off p wd i n c z => .slice (if z then none else some ⟨b, off + (pathOff p + i * wd), none⟩) n c
  | .fn f x y => .func f (SV.denL x).toArray (SV.denL y).toArray
  | .agg l => .agg (SV.flatL l).toArray
  | .arr n _ get => .agg ((List.range n).flatMap fun i => (get i).flat).toArray
  | .tup l => .tuple (SV.denL l).toArray
  | .iface t v => .iface t v.den
  | .map _ b _ => .map (some b)
  | .val v => v
  | .wsl _ b off p _ n c z sp => .slice (if z then none else some ⟨b, off + pathOff p, sp⟩) n c
  | .mobj _ _ => .agg #[]
def SV.denL : List SV → List Value
  | [] => []
  | v :: r => v.den :: SV.denL r
end

/-- What must hold: a test that the run itself decides; or a proposition. -/
inductive Ob where
  | c (b : Bool)
  | p (q : Prop)

/-- How many cells. -/
def SV.sz : SV → Nat
  | .agg l => szL l
  | .arr n wd _ => n * wd
  | .mobj _ _ => 0
  | _ => 1
where szL : List SV → Nat
  | [] => 0
  | v :: r => v.sz + szL r

def SV.isAgg : SV → Bool
  | .agg _ => true
  | .arr _ _ _ => true
  | .mobj _ _ => true
  | _ => false
/-- A map's content. -/
def SV.isM : SV → Bool
  | .mobj _ _ => true
  | _ => false

/-- No tuple. -/
def SV.nt : SV → Bool
  | .tup _ => false
  | .mobj _ _ => false
  | _ => true

mutual
/-- Arrays' parts have the size that is said of them; no value of the model is taken for an aggregate. -/
def SV.wf : SV → Prop
  | .agg l => SV.wfA l
  | .arr n wd get => ∀ i, i < n → (get i).wf ∧ (get i).sz = wd ∧ (get i).nt = true
  | .val v => (match v with | .agg _ => False | .tuple _ => False | _ => True)
  | .tup l => SV.wfL l
  | .fn _ x y => SV.wfL x ∧ SV.wfL y
  | .iface _ v => v.wf
  | .slice _ _ _ _ _ _ n c z => (z = true → n = 0 ∧ c = 0) ∧ n ≤ c ∧ c ≤ 9223372036854775807
  | .wsl _ _ _ _ _ n c z _ => (z = true → n = 0 ∧ c = 0) ∧ n ≤ c ∧ c ≤ 9223372036854775807
  | .str l => l.length ≤ 9223372036854775807
  | .mobj _ _ => False
  | _ => True
def SV.wfL : List SV → Prop
  | [] => True
  | v :: r => v.wf ∧ SV.wfL r
/-- .. and no part is a tuple. -/
def SV.wfA : List SV → Prop
  | [] => True
  | v :: r => v.wf ∧ v.nt = true ∧ SV.wfA r
end

def kindEq : IntKind → IntKind → Bool
  | .i8, .i8 => true
  | .i16, .i16 => true
  | .i32, .i32 => true
  | .i64, .i64 => true
  | .u8, .u8 => true
  | .u16, .u16 => true
  | .u32, .u32 => true
  | .u64, .u64 => true
  | _, _ => false

mutual
/-- 'if c then a else b', inside the value where that can be. -/
def SV.ite (c : Prop) [Decidable c] : SV → SV → SV
  | .int k x, .int k' y => match kindEq k k' with
    | true => .int k (if c then x else y)
    | false => if c then .int k x else .int k' y
  | .bool x, .bool y => .bool (if c then x else y)
  | .str x, .str y => .str (if c then x else y)
  | .agg l, .agg m => match SV.iteL c l m with
    | some r => .agg r
    | none => if c then .agg l else .agg m
  | .arr n wd f, .arr n' wd' g => match Nat.beq n n', Nat.beq wd wd' with
    | true, true => .arr n wd fun k => SV.ite c (f k) (g k)
    | _, _ => if c then .arr n wd f else .arr n' wd' g
  | a, b => if c then a else b
def SV.iteL (c : Prop) [Decidable c] : List SV → List SV → Option (List SV)
  | [], [] => some []
  | a :: l, b :: m => match SV.iteL c l m with
    | some r => some (SV.ite c a b :: r)
    | none => none
  | _, _ => none
end

def nth {α : Type} : List α → Nat → Option α
  | [], _ => none
  | a :: _, 0 => some a
  | _ :: r, n + 1 => nth r n
/-- A short list's parts, by a chain of tests. -/
def litAt : Nat → List SV → SV → Nat → SV
  | _, [], z, _ => z
  | i, v :: r, z, k => match r with
    | [] => v
    | _ :: _ => SV.ite (k = i) v (litAt (i + 1) r z k)
def litGet (l : List SV) (z : SV) : Nat → SV := match Nat.ble l.length 8 with
  | true => litAt 0 l z
  | false => fun k => (nth l k).getD z
def setNth {α : Type} : List α → Nat → α → List α
  | [], _, _ => []
  | _ :: r, 0, x => x :: r
  | a :: r, n + 1, x => a :: setNth r n x

/-- The size of the first k parts. -/
def szTo : List SV → Nat → Nat
  | _, 0 => 0
  | [], _ => 0
  | v :: r, n + 1 => v.sz + szTo r n

/-- The part of a value at a path, and what must hold for it. -/
def nav : SV → List PS → Option (List Ob × SV)
  | .mobj _ _, _ => none
  | v, [] => some ([], v)
  | .agg l, .fld k o :: r => match nth l k with
    | some v => match nav v r with
      | some (ps, u) => some (.c (Nat.beq o (szTo l k)) :: ps, u)
      | none => none
    | none => none
  | .arr n wd get, .elt i wd' :: r => match nav (get i) r with
    | some (ps, u) => some (.p (i < n) :: .c (Nat.beq wd' wd) :: ps, u)
    | none => none
  | _, _ :: _ => none
/-- A value with another part at a path. -/
def setAt : SV → List PS → SV → Option (List Ob × SV)
  | v, [], u => some ([.c (Nat.beq u.sz v.sz)], u)
  | .agg l, .fld k o :: r, u => match nth l k with
    | some v => match setAt v r u with
      | some (ps, x) => some (.c (Nat.beq o (szTo l k)) :: ps, .agg (setNth l k x))
      | none => none
    | none => none
  | .arr n wd get, .elt i wd' :: r, u => match setAt (get i) r u with
    | some (ps, x) => some (.p (i < n) :: .c (Nat.beq wd' wd) :: ps, .arr n wd fun k => SV.ite (k = i) x (get k))
    | none => none
  | _, _ :: _, _ => none

/-- An entry of the symbolic heap: the block b holds, from cell off on, n elements of wd cells each; 'own': the block may be written, and has room for cap elements, each of type t. 'one': there is one element; 'z': a nil slice's: there is no block. 'fam': only read: element i lies where this says, in a block of its own. -/
structure Ent where
  g : Nat
  b : Nat
  off : Nat
  wd : Nat
  n : Nat
  get : Nat → SV
  own : Bool
  one : Bool
  cap : Nat
  t : TypeId
  z : Bool
  fam : Option (Nat → Nat × Nat)
abbrev Hp := List Ent
/-- May be written: owned, and no family. -/
def Ent.wr (e : Ent) : Bool := match e.own with
  | true => match e.fam with
    | none => true
    | some _ => false
  | false => false
/-- A frame's entry: slot s holds v if the guards hold, else nothing. -/
abbrev Gd := List (Nat × Bool × Bool)
structure FE where
  s : Nat
  gd : Gd
  v : SV
abbrev Fr := List FE

structure Leaf (p : Prop) : Prop where
  out : p
/-- A region that draws its order: what the kit's theorem asks of its edges. -/
def lexOk (ops : Array Oper) : Bool := Region.lexB .any ops

def Fr.find : Fr → Nat → Option FE
  | [], _ => none
  | ⟨s', gd, v⟩ :: r, s => match Nat.beq s' s with
    | true => some ⟨s', gd, v⟩
    | false => Fr.find r s
theorem Fr.find_cons (e : FE) (r : Fr) (s : Nat) : Fr.find (e :: r) s = match Nat.beq e.s s with
    | true => some e
    | false => Fr.find r s := by cases e; rfl
def Hp.find : Hp → Nat → Option Ent
  | [], _ => none
  | ⟨g, b, off, wd, n, get, own, one, cap, t, z, fam⟩ :: r, s => match Nat.beq g s with
    | true => some ⟨g, b, off, wd, n, get, own, one, cap, t, z, fam⟩
    | false => Hp.find r s
theorem Hp.find_cons (e : Ent) (r : Hp) (s : Nat) : Hp.find (e :: r) s = match Nat.beq e.g s with
    | true => some e
    | false => Hp.find r s := by cases e; rfl
def Hp.set : Hp → Nat → Ent → Hp
  | [], _, _ => []
  | ⟨g, b, off, wd, n, get, own, one, cap, t, z, fam⟩ :: r, s, x => match Nat.beq g s with
    | true => x :: r
    | false => ⟨g, b, off, wd, n, get, own, one, cap, t, z, fam⟩ :: Hp.set r s x
theorem Hp.set_cons (e : Ent) (r : Hp) (s : Nat) (x : Ent) : Hp.set (e :: r) s x = match Nat.beq e.g s with
    | true => x :: r
    | false => e :: Hp.set r s x := by cases e; rfl

def beqB : Bool → Bool → Bool
  | true, true => true
  | false, false => true
  | _, _ => false
def gdMem (s : Nat) (bb : Bool) : Gd → Bool
  | [] => false
  | (s', b', _) :: r => match Nat.beq s s', beqB bb b' with
    | true, true => true
    | _, _ => gdMem s bb r
def gdSub : Gd → Gd → Bool
  | [], _ => true
  | (s, bb, _) :: r, G => match gdMem s bb G with
    | true => gdSub r G
    | false => false

def nilSlice : SV := .slice 999999 0 0 [] 0 0 0 0 true
def ofCell : Value → Option SV
  | .int k x => some (.int k x)
  | .bool b => some (.bool b)
  | .string s => match Nat.ble s.data.toList.length 9223372036854775807 with
    | true => some (.str s.data.toList)
    | false => none
  | .agg _ => none
  | .tuple _ => none
  | .slice none 0 0 => some nilSlice
  | v => some (.val v)
def ofCells : List Value → Option (List SV)
  | [] => some []
  | v :: r => match ofCell v with
    | some x => match ofCells r with
      | some l => some (x :: l)
      | none => none
    | none => none
def ofValue : Value → Option SV
  | .agg cs => match ofCells cs.toList with
    | some l => some (.agg l)
    | none => none
  | v => ofCell v

/-- An operand's value where the guards of G hold. -/
def ev (fr : Fr) (G : Gd) : Operand → Option SV
  | .tmp t => match fr.find t with
    | some e => match gdSub e.gd G with
      | true => some e.v
      | false => none
    | none => none
  | .const v => ofValue v
  | .global g => some (.ptr (1000000 + g) g 0 [.elt 0 0])
  | .func f => some (.fn (.func f) [] [])
def evs (fr : Fr) (G : Gd) : List Operand → Option (List SV)
  | [] => some []
  | o :: r => match ev fr G o with
    | some v => match evs fr G r with
      | some l => some (v :: l)
      | none => none
    | none => none

/-- What is known of a type. -/
inductive TK where
  | int (k : IntKind) | bool | str
  | ptr (e : TypeId) | slice (e : TypeId)
  | struct (fs : List (Nat × TypeId))
  | arr (n : Nat) (e : TypeId)
  | map (k e : TypeId)
  | fn | iface | other
structure TI where
  size : Nat
  bytes : Nat
  kind : TK
  zero : SV
def TI.agg (ti : TI) : Bool := match ti.kind with
  | .struct _ => true
  | .arr _ _ => true
  | _ => false

/-- What the run is given: types, pure contracts (arguments, heap: what is asked, the result), other contracts, comparisons of aggregates. -/
structure Env where
  ty : TypeId → Option TI
  pc : FuncId → List SV → Hp → Option (List Ob × SV)
  ec : FuncId → List SV → Hp → Nat → (SV → Hp → Nat → Prop) → Prop
  eqc : TypeId → SV → SV → Option Bool
  /-- The array types whose variables are held as rows of their elements. -/
  rows : TypeId → Bool
  /-- Functions that may panic; their contracts (the fourth argument: what holds where one panics). -/
  isX : FuncId → Bool
  xc : FuncId → List SV → Hp → Nat → (SV → Hp → Nat → Prop) → (SV → Hp → Nat → Prop) → Prop

def binop (E : Env) (op : BinOp) (t : TypeId) : SV → SV → Option (List Ob × SV)
  | .int k x, .int k' y => match op with
    | .shl => some ([.p (0 ≤ y)], .int k (k.wrap (x * 2 ^ (min y.toNat k.bits))))
    | .shr => some ([.p (0 ≤ y)], .int k (x.fdiv (2 ^ (min y.toNat k.bits))))
    | op => match kindEq k k' with
      | true => match op with
        | .add => some ([], .int k (k.wrap (x + y)))
        | .sub => some ([], .int k (k.wrap (x - y)))
        | .mul => some ([], .int k (k.wrap (x * y)))
        | .quo => some ([.p (y ≠ 0)], .int k (k.wrap (x.tdiv y)))
        | .rem => some ([.p (y ≠ 0)], .int k (x.tmod y))
        | .and => some ([], .int k (k.wrap ((BitVec.ofInt k.bits x &&& BitVec.ofInt k.bits y).toNat)))
        | .or => some ([], .int k (k.wrap ((BitVec.ofInt k.bits x ||| BitVec.ofInt k.bits y).toNat)))
        | .xor => some ([], .int k (k.wrap ((BitVec.ofInt k.bits x ^^^ BitVec.ofInt k.bits y).toNat)))
        | .andNot => some ([], .int k (k.wrap ((BitVec.ofInt k.bits x &&& ~~~ BitVec.ofInt k.bits y).toNat)))
        | .eql => some ([], .bool (x == y))
        | .neq => some ([], .bool (x != y))
        | .lss => some ([], .bool (decide (x < y)))
        | .leq => some ([], .bool (decide (x ≤ y)))
        | .gtr => some ([], .bool (decide (x > y)))
        | .geq => some ([], .bool (decide (x ≥ y)))
        | _ => none
      | false => none
  | .str x, .str y => match op with
    | .add => some ([.p (x.length + y.length ≤ 9223372036854775807)], .str (x ++ y))
    | .eql => some ([], .bool (x == y))
    | .neq => some ([], .bool (!(x == y)))
    | _ => none
  | x, y => match op with
    | .eql => match E.eqc t x y with
      | some b => some ([], .bool b)
      | none => none
    | .neq => match E.eqc t x y with
      | some b => some ([], .bool (!b))
      | none => none
    | _ => none

def unop : UnOp → SV → Option (List Ob × SV)
  | .not, .bool b => some ([], .bool (!b))
  | .neg, .int k x => some ([], .int k (k.wrap (0 - x)))
  | .xor, .int k x => some ([], .int k (k.wrap ((BitVec.ofInt k.bits (if k.signed then -1 else k.max) ^^^ BitVec.ofInt k.bits x).toNat)))
  | _, _ => none

/-- len and the other built-in functions that only look. -/
def builtinP : Builtin → List SV → Option (List Ob × SV)
  | .len, [.str l] => some ([], .int .i64 l.length)
  | .len, [.slice _ _ _ _ _ _ n _ _] => some ([], .int .i64 n)
  | .len, [.wsl _ _ _ _ _ n _ _ _] => some ([], .int .i64 n)
  | .cap, [.slice _ _ _ _ _ _ _ c _] => some ([], .int .i64 c)
  | .min, [.int k x, .int _ y] => some ([], .int k (if y < x then y else x))
  | .min, [.int k x, .int _ y, .int _ z] => some ([], .int k (if z < (if y < x then y else x) then z else (if y < x then y else x)))
  | .max, [.int k x, .int _ y] => some ([], .int k (if y > x then y else x))
  | .max, [.int k x, .int _ y, .int _ z] => some ([], .int k (if z > (if y > x then y else x) then z else (if y > x then y else x)))
  | _, _ => none

/-- len and cap: the operand's type. -/
def builtinT (E : Env) : Builtin → List TypeId → List SV → Bool
  | .len, t :: _, [.str _] => match E.ty t with
    | some ⟨_, _, .str, _⟩ => true
    | _ => false
  | .len, t :: _, _ => match E.ty t with
    | some ⟨_, _, .slice _, _⟩ => true
    | _ => false
  | .cap, t :: _, _ => match E.ty t with
    | some ⟨_, _, .slice _, _⟩ => true
    | _ => false
  | .min, _, _ => true
  | .max, _, _ => true
  | _, _, _ => false
/-- The end of a path one field further. -/
def addFld (p : List PS) (k o : Nat) : List PS := p ++ [.fld k o]

/-- The bounds of a slice expression. -/
def intArg (fr : Fr) (G : Gd) : Option Operand → Option (Option Int)
  | none => some none
  | some o => match ev fr G o with
    | some (.int _ x) => some (some x)
    | _ => none

/-- i + k, and k where i is 0. -/
def sh (i k : Nat) : Nat := match i with
  | 0 => k
  | i + 1 => i + 1 + k
/-- A literal of a struct or an array: its parts over the zero value's. -/
def buildL (fr : Fr) (G : Gd) (pl : Nat → Option (Nat × Nat)) : List (Nat × Operand) → List SV → Option (List Ob × List SV)
  | [], z => some ([], z)
  | (k, o) :: r, z => match ev fr G o with
    | some v => match nth z k with
      | some u => match pl k with
        | some (off, sz) => match buildL fr G pl r (setNth z k v) with
          | some (ps, x) => match v.nt with
            | true => some (.c (Nat.beq off (szTo z k)) :: .c (Nat.beq v.sz sz) :: .c (Nat.beq v.sz u.sz) :: ps, x)
            | false => none
          | none => none
        | none => none
      | none => none
    | none => none
def placeS (E : Env) (fs : List (Nat × TypeId)) (k : Nat) : Option (Nat × Nat) := match nth fs k with
  | some (o, ft) => match E.ty ft with
    | some fi => some (o, fi.size)
    | none => none
  | none => none
def uptoL (get : Nat → SV) (n : Nat) : List SV := go n []
where go : Nat → List SV → List SV
  | 0, acc => acc
  | k + 1, acc => go k (get k :: acc)

/-- A cut at the very end of the capacity keeps the old address. -/
def cutIx (c a i : Nat) : Nat := if c = a then i else sh i a

/-- An index into an entry's row. -/
def idxOb (e : Ent) (i : Nat) : Ob := match e.one with
  | true => .c (Nat.blt i e.n)
  | false => .p (i < e.n)
/-- The place at which a pointer says that element i lies. -/
def locOb (e : Ent) (b off i wd : Nat) (r : List Ob) : List Ob := match e.fam with
  | none => .p (e.b = b ∧ e.off = off) :: .c (Nat.beq e.wd wd) :: r
  | some f => .p (f i = (b, off)) :: .c (Nat.beq wd 0) :: r

/-- Where a map lies. -/
def mapOb (e : Ent) (b i : Nat) (r : List Ob) : List Ob := match e.fam with
  | some f => .p ((f i).1 = b) :: .p (i < e.n) :: r
  | none => [.c false]
/-- The row that a slice lies in. -/
def rowOf (H : Hp) (g b off : Nat) (p : List PS) (wd : Nat) (z : Bool) : Option (List Ob × Nat × (Nat → SV)) :=
  match H.find g with
  | some e => match p with
    | [] => (match e.fam with | none => some ([.p (e.b = b ∧ e.off = off), .c (Nat.beq e.wd wd)], e.n, e.get) | some _ => none)
    | .elt i0 wd0 :: r => match nav (e.get i0) r with
      | some (ps, .arr n wd' get) => some (locOb e b off i0 wd0 (idxOb e i0 :: .c (Nat.beq wd' wd) :: ps), n, get)
      | _ => none
    | _ => none
  | none => some ([.p (z = true)], 0, fun _ => .bool false)
/-- A byte. -/
def isU8 : SV → Bool
  | .int .u8 _ => true
  | _ => false
def intOf : SV → Int
  | .int _ x => x
  | _ => 0
def pstep (E : Env) (fr : Fr) (H : Hp) (G : Gd) : Op → Option (List Ob × SV)
  | .move x => match ev fr G x with | some v => some ([], v) | none => none
  | .assign x => match ev fr G x with | some v => some ([], v) | none => none
  | .pick (.tmp c) x y => match fr.find c with
    | some ⟨_, gc, .bool b⟩ => match gdSub gc G with
      | true => match ev fr ((c, true, b) :: G) x with
        | some u => match ev fr ((c, false, b) :: G) y with
          | some v => some ([], SV.ite (b = true) u v)
          | none => none
        | none => none
      | false => none
    | _ => none
  | .nilCheck x => match ev fr G x with
    | some (.ptr g b off p) => some ([], .ptr g b off p)
    | some (.fn (.func f) l m) => some ([], .fn (.func f) l m)
    | _ => none
  | .fieldAddr t x f => match ev fr G x with
    | some (.ptr g b off p) => match E.ty t with
      | some ⟨_, _, .struct fs, _⟩ => match nth fs f with
        | some (o, _) => some ([], .ptr g b off (addFld p f o))
        | none => none
      | _ => none
    | _ => none
  | .field t x f => match ev fr G x with
    | some (.agg l) => match E.ty t with
      | some ⟨_, _, .struct fs, _⟩ => match nth fs f with
        | some (o, ft) => match nth l f with
          | some v => match E.ty ft with
            | some fi => some ([.c (Nat.beq o (szTo l f)), .c (Nat.beq v.sz fi.size), .c (beqB v.isAgg fi.agg)], v)
            | none => none
          | none => none
        | none => none
      | _ => none
    | _ => none
  | .indexAddr t x ix => match ev fr G ix with
    | some (.int _ i) => match ev fr G x with
      | some (.slice g b off p wd j n _ _) => match E.ty t with
        | some ⟨_, _, .slice e, _⟩ => match E.ty e with
          | some te => some ([.p (0 ≤ i), .p (i < n), .c (Nat.beq wd te.size)], .ptr g b off (p ++ [.elt (sh j i.toNat) wd]))
          | none => none
        | _ => none
      | some (.wsl g b off p wd n _ _ sp) => match E.ty t with
        | some ⟨_, _, .slice e, _⟩ => match E.ty e with
          | some te => some ([.p (0 ≤ i), .p (i < n), .p (sp = none), .c (Nat.beq wd te.size)], .ptr g b off (p ++ [.elt i.toNat wd]))
          | none => none
        | _ => none
      | some (.ptr g b off p) => match E.ty t with
        | some ⟨_, _, .arr n e, _⟩ => match E.ty e with
          | some te => some ([.p (0 ≤ i), .p (i < n)], .ptr g b off (p ++ [.elt i.toNat te.size]))
          | none => none
        | _ => none
      | _ => none
    | _ => none
  | .index t x ix => match ev fr G ix with
    | some (.int _ i) => match ev fr G x with
      | some (.str l) => match E.ty t with
        | some ⟨_, _, .str, _⟩ => some ([.p (0 ≤ i), .p (i < l.length)], .int .u8 (l.getD i.toNat 0).toNat)
        | _ => none
      | some (.arr n wd get) => match E.ty t with
        | some ⟨_, _, .arr m e, _⟩ => match E.ty e with
          | some te => some ([.p (0 ≤ i), .p (i < m), .c (Nat.beq n m), .c (Nat.beq wd te.size), .c (beqB (get i.toNat).isAgg te.agg)], get i.toNat)
          | none => none
        | _ => none
      | _ => none
    | _ => none
  | .load t x => match ev fr G x with
    | some (.ptr g b off (.elt i wd :: r)) => match H.find g with
      | some e => match E.ty t with
        | some ti => match nav (e.get i) r with
          | some (ps, v) => some (locOb e b off i wd (idxOb e i :: .c (Nat.beq v.sz ti.size) :: .c (beqB v.isAgg ti.agg) :: ps), v)
          | none => none
        | none => none
      | none => none
    | _ => none
  | .binOp op t x y _ => match ev fr G x with
    | some a => match ev fr G y with
      | some b => binop E op t a b
      | none => none
    | none => none
  | .unOp op _ x => match ev fr G x with
    | some a => unop op a
    | none => none
  | .convert s d x => match ev fr G x with
    | some (.int _ n) => match E.ty d with
      | some ⟨_, _, .int k, _⟩ => match E.ty s with
        | some _ => some ([], .int k (k.wrap n))
        | none => none
      | _ => none
    | some (.str l) => match E.ty d with
      | some ⟨_, _, .str, _⟩ => match E.ty s with
        | some ⟨_, _, .str, _⟩ => some ([], .str l)
        | _ => none
      | _ => none
    | some (.slice g b off p wd i n c z) => match E.ty d with
      | some ⟨_, _, .str, _⟩ => match E.ty s with
        | some ⟨_, _, .slice e, _⟩ => match E.ty e with
          | some ⟨_, _, .int .u8, _⟩ => match rowOf H g b off p wd z with
            | some (ps, m, get) => some (.p (sh i n ≤ m) :: .c (Nat.beq wd 1) :: .p (∀ k, k < n → isU8 (get (sh i k)) = true) :: ps, .str (Byt.of (fun k => intOf (get (sh i k))) n))
            | none => none
          | _ => none
        | _ => none
      | _ => none
    | _ => none
  | .extract x k => match ev fr G x with
    | some (.tup l) => match nth l k with
      | some v => some ([], v)
      | none => none
    | _ => none
  | .makeFunc f l m => match evs fr G l.toList with
    | some a => match evs fr G m.toList with
      | some b => some ([], .fn f a b)
      | none => none
    | none => none
  | .makeInterface t x => match ev fr G x with
    | some v => match E.ty t with
      | some ⟨_, _, .iface, _⟩ => none
      | some ⟨_, _, .other, _⟩ => none
      | some _ => some ([], .iface t v)
      | none => none
    | none => none
  | .typeAssert x _ t true => match E.ty t with
    | some ti => match ti.kind with
      | .iface => none
      | .other => none
      | _ => match ev fr G x with
        | some (.iface d v) => match Nat.beq d t with
          | true => some ([], .tup [v, .bool true])
          | false => some ([], .tup [ti.zero, .bool false])
        | some (.val .nilIface) => some ([], .tup [ti.zero, .bool false])
        | _ => none
    | none => none
  | .slice t x lo hi none => match intArg fr G lo with
    | some l => match intArg fr G hi with
      | some h => match ev fr G x with
        | some (.str s) => match E.ty t with
          | some ⟨_, _, .str, _⟩ => let a := l.getD 0; let z := h.getD s.length
            some ([.p (0 ≤ z), .p (z ≤ s.length), .p (0 ≤ a), .p (a ≤ z)], .str ((s.take z.toNat).drop a.toNat))
          | _ => none
        | some (.slice g b off p wd i n c z0) => match E.ty t with
          | some ⟨_, _, .slice e, _⟩ => match E.ty e with
            | some te => match l with
              | none => let z := h.getD n
                some ([.p (0 ≤ z), .p (z ≤ c)], .slice g b off p wd i z.toNat c z0)
              | some a => let z := h.getD n
                some ([.p (0 ≤ z), .p (z ≤ c), .p (0 ≤ a), .p (a ≤ z), .c (Nat.beq wd te.size)], .slice g b off p wd (cutIx c a.toNat i) (z.toNat - a.toNat) (c - a.toNat) z0)
            | none => none
          | _ => none
        | some (.ptr g b off p) => match E.ty t with
          | some ⟨_, _, .arr n e, _⟩ => match E.ty e with
            | some te => match l with
              | none => let z := h.getD n
                some ([.p (0 ≤ z), .p (z ≤ n), .c (Nat.ble n 9223372036854775807)], .slice g b off p te.size 0 z.toNat n false)
              | some a => let z := h.getD n
                some ([.p (0 ≤ z), .p (z ≤ n), .p (0 ≤ a), .p (a ≤ z), .c (Nat.ble n 9223372036854775807)], .slice g b off p te.size (cutIx n a.toNat 0) (z.toNat - a.toNat) (n - a.toNat) false)
            | none => none
          | _ => none
        | _ => none
      | none => none
    | none => none
  | .slice t x none (some hi) (some mx) => match ev fr G hi with
    | some (.int _ z) => match ev fr G mx with
      | some (.int _ m) => match ev fr G x with
        | some (.slice g b off p wd i n c z0) => match E.ty t with
          | some ⟨_, _, .slice e, _⟩ => match E.ty e with
            | some te => some ([.p (0 ≤ z), .p (z ≤ m), .p (m ≤ c)], .slice g b off p wd i z.toNat m.toNat z0)
            | none => none
          | _ => none
        | _ => none
      | _ => none
    | _ => none
  | .slice t x (some lo) (some hi) (some mx) => match ev fr G lo with
    | some (.int _ a) => match ev fr G hi with
      | some (.int _ z) => match ev fr G mx with
        | some (.int _ m) => match ev fr G x with
          | some (.slice g b off p wd i n c z0) => match E.ty t with
            | some ⟨_, _, .slice e, _⟩ => match E.ty e with
              | some te => some ([.p (0 ≤ a), .p (a ≤ z), .p (z ≤ m), .p (m ≤ c), .c (Nat.beq wd te.size)], .slice g b off p wd (cutIx m.toNat a.toNat i) (z.toNat - a.toNat) (m.toNat - a.toNat) z0)
              | none => none
            | _ => none
          | _ => none
        | _ => none
      | _ => none
    | _ => none
  | .lookup t x ix false => match ev fr G x with
    | some (.map g b i) => match ev fr G ix with
      | some (.int .i64 k) => match H.find g with
        | some e => match E.ty t with
          | some ⟨_, _, .map kt et, _⟩ => match E.ty kt with
            | some ⟨_, _, .int .i64, _⟩ => match E.ty et with
              | some te => match e.get i with
                | .mobj h gt => some (mapOb e b i [], SV.ite (h k = true) (gt k) te.zero)
                | _ => none
              | none => none
            | _ => none
          | _ => none
        | none => none
      | _ => none
    | _ => none
  | .build t parts => match E.ty t with
    | some ⟨_, _, .struct fs, .agg z⟩ => match buildL fr G (placeS E fs) parts.toList z with
      | some (ps, l) => some (ps, .agg l)
      | none => none
    | some ⟨_, _, .arr n e, .arr m wd get⟩ => match E.ty e with
      | some te => match buildL fr G (fun k => some (k * te.size, te.size)) parts.toList (uptoL get m) with
        | some (ps, l) => some (.c (Nat.beq n m) :: .c (Nat.beq wd te.size) :: ps, .arr m wd fun k => (nth l k).getD (get k))
        | none => none
      | none => none
    | _ => none
  | .call c => match c.callee with
    | .value f => match ev fr G f with
      | some (.fn (.func k) l m) => match evs fr G c.args.toList with
        | some a => match E.pc k (l ++ (a ++ m)) H with
          | some (ps, v) => some (ps, v)
          | none => none
        | none => none
      | _ => none
    | .builtin b => match evs fr G c.args.toList with
      | some a => match builtinT E b c.argTypes.toList a with
        | true => builtinP b a
        | false => none
      | none => none
    | _ => none
  | _ => none

def condB : Gd → Bool
  | [] => true
  | (_, bb, g) :: r => (g == bb) && condB r
def gHolds : Gd → Prop
  | [] => True
  | (_, bb, g) :: r => match r with
    | [] => g = bb
    | x :: l => g = bb ∧ gHolds (x :: l)
def allTrue : List Ob → Prop
  | [] => True
  | .c b :: r => b = true ∧ allTrue r
  | .p q :: r => q ∧ allTrue r
/-- What must hold where the guards hold. -/
def allP (G : Gd) : List Ob → Prop → Prop
  | [], k => k
  | .c b :: r, k => match b with
    | true => allP G r k
    | false => False
  | .p q :: r, k => match G with
    | [] => q ∧ allP G r k
    | _ :: _ => (gHolds G → q) ∧ allP G r k
def allL : List Ob → Prop → Prop
  | [], k => k
  | .c b :: r, k => match b with
    | true => allL r k
    | false => False
  | .p q :: r, k => q ∧ allL r k

def dstOf (ops : List Oper) (j : Nat) : Option Nat :=
  match nth ops j with
  | some o => o.dst
  | none => none
/-- The guards under which an operation is carried out. -/
def chain (fr : Fr) (ops : List Oper) : Option (Nat × Bool) → Option Gd
  | none => some []
  | some (j, bb) => match dstOf ops j with
    | some s => match fr.find s with
      | some ⟨_, gs, .bool g⟩ => some ((s, bb, g) :: gs)
      | _ => none
    | none => none
def put (dst : Option Nat) (gd : Gd) (v : SV) (fr : Fr) : Fr :=
  match dst with
  | some s => ⟨s, gd, v⟩ :: fr
  | none => fr
def gdHas (s : Nat) : Gd → Bool
  | [] => false
  | (s', _, _) :: r => match Nat.beq s s' with
    | true => true
    | false => gdHas s r
/-- No entry's guards name the slot. -/
def gdFresh (s : Nat) : Fr → Bool
  | [] => true
  | ⟨_, gd, _⟩ :: r => match gd with
    | [] => gdFresh s r
    | x :: l => match gdHas s (x :: l) with
      | true => false
      | false => gdFresh s r
theorem gdFresh_cons (s : Nat) (e : FE) (r : Fr) : gdFresh s (e :: r) = match e.gd with
    | [] => gdFresh s r
    | x :: l => match gdHas s (x :: l) with
      | true => false
      | false => gdFresh s r := by cases e; rfl
/-- The slot lies in the frame, and is no guard's. -/
def okDst (N : Nat) (G : Gd) (fr : Fr) : Option Nat → Bool
  | none => true
  | some s => match Nat.blt s N with
    | true => match gdHas s G with
      | true => false
      | false => gdFresh s fr
    | false => false

/-- The elements of a slice, for append, copy and conversion. -/
def elems (H : Hp) : SV → Option (List Ob × Nat × (Nat → SV))
  | .slice g b off p wd i n _ z => match rowOf H g b off p wd z with
    | some (ps, m, get) => some (.p (sh i n ≤ m) :: ps, n, fun k => get (sh i k))
    | none => none
  | .str l => some ([], l.length, fun k => .int .u8 (l.getD k 0).toNat)
  | _ => none

/-- A row with another element. -/
def updGet (one : Bool) (i : Nat) (u : SV) (get : Nat → SV) : Nat → SV := match one with
  | true => fun _ => u
  | false => fun k => SV.ite (k = i) u (get k)
/-- A family with another element. -/
def updFam (i : Nat) (u : SV) (get : Nat → SV) : Nat → SV := fun k => if k = i then u else get k
/-- .. a family of maps. -/
def updMap (n i : Nat) (u : SV) (get : Nat → SV) : Nat → SV := match n with
  | 1 => fun _ => u
  | _ => fun k => if k = i then u else get k
/-- What append adds: a slice's or a string's elements, or so many zeros ('append(s, make([]T, n)...)': the operand is the number). -/
def added (E : Env) (H : Hp) (te : TI) (t' : TypeId) : SV → Option (List Ob × Nat × (Nat → SV))
  | .int .i64 n => match E.ty t' with
    | some ⟨_, _, .int _, _⟩ => some ([.p (0 ≤ n), .p (n ≤ 9223372036854775807)], n.toNat, fun _ => te.zero)
    | _ => none
  | .slice g b off p wd i n c z => match E.ty t' with
    | some ⟨_, _, .slice _, _⟩ => match Nat.beq g 999999 with
      | true => some ([.p (z = true)], 0, fun _ => te.zero)
      | false => match elems H (.slice g b off p wd i n c z) with
        | some (ps, m, get) => some (.c (Nat.beq wd te.size) :: ps, m, get)
        | none => none
    | _ => none
  | .str l => match E.ty t' with
    | some ⟨_, _, .str, _⟩ => some ([.c (Nat.beq te.size 1)], l.length, fun k => .int .u8 (l.getD k 0).toNat)
    | _ => none
  | _ => none
/-- What is appended lies in the same row. -/
def selfA (g : Nat) : SV → Bool
  | .slice g2 _ _ _ _ _ _ _ _ => Nat.beq g g2
  | _ => false
/-- The same value, its head and its parts' heads evaluated, handed on. -/
def PS.fo : List PS → (List PS → Prop) → Prop
  | [], K => K []
  | .elt i wd :: r, K => PS.fo r fun r' => K (.elt i wd :: r')
  | .fld k o :: r, K => PS.fo r fun r' => K (.fld k o :: r')
def SV.fo1 (v : SV) (K : SV → Prop) : Prop := match v with
  | .int k x => K (.int k x)
  | .bool b => K (.bool b)
  | .str l => K (.str l)
  | .ptr g b off p => PS.fo p fun p' => K (.ptr g b off p')
  | .slice g b off p wd i n c z => PS.fo p fun p' => K (.slice g b off p' wd i n c z)
  | .fn f x y => K (.fn f x y)
  | .agg l => K (.agg l)
  | .arr n wd get => K (.arr n wd get)
  | .tup l => K (.tup l)
  | .iface t v => K (.iface t v)
  | .map g b i => K (.map g b i)
  | .mobj h g => K (.mobj h g)
  | .val v => K (.val v)
  | .wsl g b off p wd n c z sp => PS.fo p fun p' => K (.wsl g b off p' wd n c z sp)
def SV.foL : List SV → (List SV → Prop) → Prop
  | [], K => K []
  | v :: r, K => SV.fo1 v fun v' => SV.foL r fun r' => K (v' :: r')
def SV.fo (v : SV) (K : SV → Prop) : Prop := match v with
  | .int k x => K (.int k x)
  | .bool b => K (.bool b)
  | .str l => K (.str l)
  | .ptr g b off p => PS.fo p fun p' => K (.ptr g b off p')
  | .slice g b off p wd i n c z => PS.fo p fun p' => K (.slice g b off p' wd i n c z)
  | .fn f x y => K (.fn f x y)
  | .agg l => SV.foL l fun l' => K (.agg l')
  | .arr n wd get => K (.arr n wd get)
  | .tup l => SV.foL l fun l' => K (.tup l')
  | .iface t v => K (.iface t v)
  | .map g b i => K (.map g b i)
  | .mobj h g => K (.mobj h g)
  | .val v => K (.val v)
  | .wsl g b off p wd n c z sp => PS.fo p fun p' => K (.wsl g b off p' wd n c z sp)
def Hp.fo : Hp → (Hp → Prop) → Prop
  | [], K => K []
  | ⟨g, b, off, wd, n, get, own, one, cap, t, z, fam⟩ :: r, K => Hp.fo r fun r' => K (⟨g, b, off, wd, n, get, own, one, cap, t, z, fam⟩ :: r')
theorem PS.fo_iff : ∀ (p : List PS) (K : List PS → Prop), PS.fo p K ↔ K p
  | [], K => Iff.rfl
  | .elt i wd :: r, K => PS.fo_iff r _
  | .fld k o :: r, K => PS.fo_iff r _
theorem SV.fo1_iff (v : SV) (K : SV → Prop) : SV.fo1 v K ↔ K v := by
  cases v <;> first | exact Iff.rfl | exact PS.fo_iff _ _
theorem SV.foL_iff : ∀ (l : List SV) (K : List SV → Prop), SV.foL l K ↔ K l
  | [], K => Iff.rfl
  | v :: r, K => by
    rw [SV.foL, SV.fo1_iff]
    exact SV.foL_iff r (fun r' => K (v :: r'))
theorem SV.fo_iff (v : SV) (K : SV → Prop) : SV.fo v K ↔ K v := by
  cases v <;> first | exact Iff.rfl | exact PS.fo_iff _ _ | exact SV.foL_iff _ _
theorem Hp.fo_iff : ∀ (H : Hp) (K : Hp → Prop), Hp.fo H K ↔ K H
  | [], K => Iff.rfl
  | ⟨g, b, off, wd, n, get, own, one, cap, t, z, fam⟩ :: r, K => Hp.fo_iff r _
/-- The same value, with new names for the numbers, Bools and strings that stand in it. -/
def SV.nm1 (v : SV) (K : SV → Prop) : Prop := match v with
  | .int k x => ∀ y : Int, y = x → K (.int k y)
  | .bool b => ∀ t : Bool, t = b → K (.bool t)
  | .str l => ∀ s : List UInt8, s = l → K (.str s)
  | .ptr g b off p => K (.ptr g b off p)
  | .slice g b off p wd i n c z => K (.slice g b off p wd i n c z)
  | .fn f x y => K (.fn f x y)
  | .agg l => K (.agg l)
  | .arr n wd get => K (.arr n wd get)
  | .tup l => K (.tup l)
  | .iface t v => K (.iface t v)
  | .map g b i => K (.map g b i)
  | .mobj h g => K (.mobj h g)
  | .val v => K (.val v)
  | .wsl g b off p wd n c z sp => K (.wsl g b off p wd n c z sp)
def SV.nmL : List SV → (List SV → Prop) → Prop
  | [], K => K []
  | v :: r, K => SV.nm1 v fun v' => SV.nmL r fun r' => K (v' :: r')
def SV.nm (v : SV) (K : SV → Prop) : Prop := match v with
  | .int k x => ∀ y : Int, y = x → K (.int k y)
  | .bool b => ∀ t : Bool, t = b → K (.bool t)
  | .str l => ∀ s : List UInt8, s = l → K (.str s)
  | .ptr g b off p => PS.fo p fun p' => K (.ptr g b off p')
  | .slice g b off p wd i n c z => PS.fo p fun p' => K (.slice g b off p' wd i n c z)
  | .fn f x y => K (.fn f x y)
  | .agg l => SV.nmL l fun l' => K (.agg l')
  | .arr n wd get => K (.arr n wd get)
  | .tup l => SV.nmL l fun l' => K (.tup l')
  | .iface t v => K (.iface t v)
  | .map g b i => K (.map g b i)
  | .mobj h g => K (.mobj h g)
  | .val v => K (.val v)
  | .wsl g b off p wd n c z sp => PS.fo p fun p' => K (.wsl g b off p' wd n c z sp)
theorem SV.nm1_to {v : SV} {K : SV → Prop} (h : SV.nm1 v K) : K v := by
  cases v <;> first | exact h | exact h _ rfl
theorem SV.nmL_to : ∀ {l : List SV} {K : List SV → Prop}, SV.nmL l K → K l
  | [], K, h => h
  | v :: r, K, h => SV.nmL_to (K := fun r' => K (v :: r')) (SV.nm1_to (K := fun v' => SV.nmL r fun r' => K (v' :: r')) h)
theorem SV.nm_to {v : SV} {K : SV → Prop} (h : SV.nm v K) : K v := by
  cases v <;> first | exact h | exact h _ rfl | exact (PS.fo_iff _ _).1 h | exact SV.nmL_to h
/-- Whose result gets a name. -/
def nmOp : Op → Bool
  | .binOp op _ _ _ _ => match op with
    | .eql => false
    | .neq => false
    | .lss => false
    | .leq => false
    | .gtr => false
    | .geq => false
    | _ => true
  | .unOp .not _ _ => false
  | .unOp _ _ _ => true
  | .convert _ _ _ => true
  | .pick _ _ _ => true
  | .call _ => true
  | _ => false
def isNm (raw : Bool) (op : Op) : Bool := match raw with
  | true => false
  | false => nmOp op
def putF (nmd : Bool) (dst : Option Nat) (gd : Gd) (v : SV) (fr : Fr) (K : Fr → Prop) : Prop :=
  match dst with
  | some s => match nmd with
    | true => SV.nm v fun v' => K (⟨s, gd, v'⟩ :: fr)
    | false => SV.fo v fun v' => K (⟨s, gd, v'⟩ :: fr)
  | none => K fr
theorem putF_to {nmd : Bool} {dst : Option Nat} {gd : Gd} {v : SV} {fr : Fr} {K : Fr → Prop} (h : putF nmd dst gd v fr K) : K (put dst gd v fr) := by
  cases dst with
  | none => exact h
  | some s =>
    cases nmd with
    | true => exact SV.nm_to (K := fun v' => K (⟨s, gd, v'⟩ :: fr)) h
    | false => exact (SV.fo_iff v (fun v' => K (⟨s, gd, v'⟩ :: fr))).1 h
/-- An element of a row with another part at a path. -/
def setRow (e : Ent) (i : Nat) (r : List PS) (v : SV) : Option (List Ob × SV) := match r with
  | [] => some ([.c (Nat.beq v.sz e.wd)], v)
  | s :: q => setAt (e.get i) (s :: q) v
/-- An operation that changes memory. -/
def estep (E : Env) (fr : Fr) (H : Hp) (G : Gd) (nx : Nat) (K : SV → Hp → Nat → Prop) : Op → Prop
  | .alloc t => match E.ty t with
    | some ti => match E.rows t with
      | false => ∀ b : Nat, K (.ptr nx b 0 [.elt 0 ti.zero.sz]) (⟨nx, b, 0, ti.zero.sz, 1, fun _ => ti.zero, true, true, 1, t, false, none⟩ :: H) (nx + 1)
      | true => match ti with
        | ⟨_, _, _, .arr n wd get⟩ => ∀ b : Nat, K (.ptr nx b 0 []) (⟨nx, b, 0, wd, n, get, true, false, n, t, false, none⟩ :: H) (nx + 1)
        | _ => False
    | none => False
  | .box t x => match ev fr G x with
    | some v => match v.nt with
      | true => ∀ b : Nat, K (.ptr nx b 0 [.elt 0 v.sz]) (⟨nx, b, 0, v.sz, 1, fun _ => v, true, true, 1, t, false, none⟩ :: H) (nx + 1)
      | false => False
    | none => False
  | .store t x y => match ev fr G x with
    | some (.ptr g b off (.elt i wd :: r)) => match ev fr G y with
      | some v => match H.find g with
        | some e => match e.wr with
          | true => match E.ty t with
            | some ti => match setRow e i r v with
              | some (ps, u) => allL (.p (e.b = b ∧ e.off = off) :: .c (Nat.beq e.wd wd) :: idxOb e i :: .c (Nat.beq v.sz ti.size) :: .c v.nt :: ps)
                  (SV.fo u fun u' => K (.tup []) (H.set g { e with get := updGet e.one i u' e.get }) nx)
              | none => False
            | none => False
          | false => match e.own, e.fam with
            | true, some f => match E.ty t with
              | some ti => match setAt (e.get i) r v with
                | some (ps, u) => allL (.p (f i = (b, off)) :: .c (Nat.beq wd 0) :: idxOb e i :: .p (∀ j, j < e.n → j ≠ i → (f j).1 ≠ b) :: .c (Nat.blt 0 v.sz) :: .c (Nat.beq v.sz ti.size) :: .c v.nt :: ps)
                    (SV.fo u fun u' => K (.tup []) (H.set g { e with get := updFam i u' e.get }) nx)
                | none => False
              | none => False
            | _, _ => False
        | none => False
      | none => False
    | _ => False
  | .makeMap t none => match E.ty t with
    | some ⟨_, _, .map kt et, _⟩ => match E.ty kt with
      | some ⟨_, _, .int .i64, _⟩ => match E.ty et with
        | some te => ∀ b : Nat, K (.map nx b 0) (⟨nx, b, 0, 0, 1, fun _ => .mobj (fun _ => false) (fun _ => te.zero), true, false, 1, t, false, some fun _ => (b, 0)⟩ :: H) (nx + 1)
        | none => False
      | _ => False
    | _ => False
  | .mapUpdate t m k y | .insert t m k y => match ev fr G m with
    | some (.map g b i) => match ev fr G k with
      | some (.int .i64 x) => match ev fr G y with
        | some u => match H.find g with
          | some e => match e.own, e.fam, E.ty t with
            | true, some f, some ⟨_, _, .map kt _, _⟩ => match E.ty kt with
              | some ⟨_, _, .int .i64, _⟩ => match e.get i with
                | .mobj h gt => allL (.p ((f i).1 = b) :: .p (i < e.n) :: .p (∀ j, j < e.n → j ≠ i → (f j).1 ≠ b) :: .c (!u.isAgg) :: .c u.nt :: [])
                    (K (.tup []) (H.set g { e with get := updMap e.n i (.mobj (fun z => h z || decide (z = x)) (fun z => SV.ite (z = x) u (gt z))) e.get }) nx)
                | _ => False
              | _ => False
            | _, _, _ => False
          | none => False
        | none => False
      | _ => False
    | _ => False
  | .makeSlice t l c => match ev fr G l with
    | some (.int _ n) => match ev fr G c with
      | some (.int _ m) => match E.ty t with
        | some ⟨_, _, .slice e, _⟩ => match E.ty e with
          | some te => (0 ≤ n) ∧ (n ≤ m) ∧ (m * te.bytes ≤ 140737488355328) ∧ (m ≤ 9223372036854775807) ∧
            ∀ b : Nat, K (.slice nx b 0 [] te.size 0 n.toNat m.toNat false) (⟨nx, b, 0, te.size, m.toNat, fun _ => te.zero, true, false, m.toNat, e, false, none⟩ :: H) (nx + 1)
          | none => False
        | _ => False
      | _ => False
    | _ => False
  | .buildSlice t n parts => match E.ty t with
    | some ⟨_, _, .slice e, _⟩ => match E.ty e with
      | some te => match buildL fr G (fun k => some (k * te.size, te.size)) parts.toList (List.replicate n te.zero) with
        | some (ps, l) => allL (.c (Nat.ble (n * te.size) 16777216) :: .c (Nat.ble n 9223372036854775807) :: ps)
          (∀ b : Nat, K (.slice nx b 0 [] te.size 0 n n false) (⟨nx, b, 0, te.size, n, litGet l te.zero, true, false, n, e, false, none⟩ :: H) (nx + 1))
        | none => False
      | none => False
    | _ => False
  | .convert s d x => match ev fr G x with
    | some (.str l) => match E.ty d with
      | some ⟨_, _, .slice e, _⟩ => match E.ty e with
        | some ⟨_, _, .int .u8, _⟩ => match E.ty s with
          | some ⟨_, _, .str, _⟩ => ∀ b c : Nat, l.length ≤ c → c ≤ 9223372036854775807 → K (.slice nx b 0 [] 1 0 l.length c false) (⟨nx, b, 0, 1, l.length, fun k => .int .u8 (l.getD k 0).toNat, true, false, c, e, false, none⟩ :: H) (nx + 1)
          | _ => False
        | _ => False
      | _ => False
    | _ => False
  | .call c => match c.callee with
    | .builtin .append => match evs fr G c.args.toList with
      | some [s, x] => match c.argTypes.toList with
        | [t, t'] => match E.ty t with
          | some ⟨_, _, .slice e, _⟩ => match E.ty e with
            | some te => match added E H te t' x with
              | some (ps, m, add) => match s with
                | .slice g b off [] wd i n cp z => match H.find g with
                  | some en => match en.wr with
                    | true => match selfA g x with
                     | true => allL (.p (en.b = b ∧ en.off = off) :: .c (Nat.beq en.wd wd) :: .c (Nat.beq wd te.size) :: .c (!en.one) :: .p (z = false) :: .p (i = 0) :: .p (n + m ≤ cp) :: .p (n + m ≤ en.n) :: .p (m * te.bytes ≤ 140737488355328) :: ps)
                      (K (.slice g b off [] wd 0 (n + m) cp false) (H.set g { en with get := fun k => SV.ite (n ≤ k ∧ k < n + m) (add (k - n)) (en.get k) }) nx)
                     | false => allL (.p (en.b = b ∧ en.off = off) :: .c (Nat.beq en.wd wd) :: .p (z = true → en.z = true) :: .p (i = 0) :: .p (n ≤ en.n) :: .p (cp ≤ en.cap) :: .c (Nat.beq en.t e) :: .c (Nat.beq wd te.size) :: .p ((n + m) * te.bytes ≤ 140737488355328) :: .p (n + m ≤ 9223372036854775807) :: ps)
                      (∀ b' o' c' : Nat, n + m ≤ c' → c' ≤ 9223372036854775807 → (en.z = true → m = 0 → c' = 0) → K (.slice g b' o' [] te.size 0 (n + m) c' (z && decide (m = 0))) (H.set g ⟨g, b', o', te.size, n + m, fun k => SV.ite (k < n) (en.get k) (add (k - n)), true, false, c', e, en.z && decide (m = 0), none⟩) nx)
                    | false => allL (.p (n = 0 ∧ cp = 0) :: .c (Nat.beq wd te.size) :: .p (m * te.bytes ≤ 140737488355328) :: .p (m ≤ 9223372036854775807) :: ps)
                      (∀ b' o' c' : Nat, m ≤ c' → c' ≤ 9223372036854775807 → (m = 0 → c' = 0) → K (.slice nx b' o' [] te.size 0 m c' (z && decide (m = 0))) (⟨nx, b', o', te.size, m, add, true, false, c', e, decide (m = 0), none⟩ :: H) (nx + 1))
                  | none => allL (.p (z = true) :: .p (m * te.bytes ≤ 140737488355328) :: .p (m ≤ 9223372036854775807) :: ps)
                      (∀ b' c' : Nat, m ≤ c' → c' ≤ 9223372036854775807 → (m = 0 → c' = 0) → K (.slice nx b' 0 [] te.size 0 m c' (decide (m = 0))) (⟨nx, b', 0, te.size, m, add, true, false, c', e, decide (m = 0), none⟩ :: H) (nx + 1))
                | _ => False
              | none => False
            | none => False
          | _ => False
        | _ => False
      | _ => False
    | .builtin .len => match evs fr G c.args.toList with
      | some [.map g b i] => match c.argTypes.toList, H.find g with
        | [t], some e => match e.fam, E.ty t with
          | some f, some ⟨_, _, .map _ _, _⟩ => match e.get i with
            | .mobj h _ => allL (.p ((f i).1 = b) :: .p (i < e.n) :: [])
                (∀ n : Nat, (∃ l : List Int, l.Nodup ∧ (∀ x, h x = true ↔ x ∈ l) ∧ l.length = n) → K (.int .i64 n) H nx)
            | _ => False
          | _, _ => False
        | _, _ => False
      | _ => False
    | .builtin .delete => match evs fr G c.args.toList with
      | some [.map g b i, .int .i64 x] => match c.argTypes.toList, H.find g with
        | [t, _], some e => match e.own, e.fam, E.ty t with
          | true, some f, some ⟨_, _, .map kt _, _⟩ => match E.ty kt with
            | some ⟨_, _, .int .i64, _⟩ => match e.get i with
              | .mobj h gt => allL (.p ((f i).1 = b) :: .p (i < e.n) :: .p (∀ j, j < e.n → j ≠ i → (f j).1 ≠ b) :: [])
                  (K (.tup []) (H.set g { e with get := updMap e.n i (.mobj (fun z => h z && !decide (z = x)) gt) e.get }) nx)
              | _ => False
            | _ => False
          | _, _, _ => False
        | _, _ => False
      | _ => False
    | .builtin .clear => match evs fr G c.args.toList with
      | some [s] => match c.argTypes.toList with
        | [t] => match E.ty t with
          | some ⟨_, _, .slice e, _⟩ => match E.ty e with
            | some te => match s with
              | .slice g b off [] wd i n _ _ => match H.find g with
                | some en => match en.wr with
                  | true => allL (.p (en.b = b ∧ en.off = off) :: .c (Nat.beq en.wd wd) :: .c (Nat.beq wd te.size) :: .c (!en.one) :: .p (i + n ≤ en.n) :: [])
                      (K (.tup []) (H.set g { en with get := fun k => SV.ite (i ≤ k ∧ k < i + n) te.zero (en.get k) }) nx)
                  | false => False
                | none => False
              | _ => False
            | none => False
          | _ => False
        | _ => False
      | _ => False
    | .builtin .copy => match evs fr G c.args.toList with
      | some [s, x] => match c.argTypes.toList with
        | [t, _] => match E.ty t with
          | some ⟨_, _, .slice e, _⟩ => match E.ty e with
            | some te => match s, x with
              | .slice g b off [] wd i n _ _, .slice g2 b2 off2 p2 wd2 i2 n2 _ z2 => match H.find g with
                | some en => match en.wr with
                  | true => match rowOf H g2 b2 off2 p2 wd2 z2 with
                    | some (ps, m, get) => allL (.p (en.b = b ∧ en.off = off) :: .c (Nat.beq en.wd wd) :: .c (Nat.beq wd te.size) :: .c (Nat.beq wd2 te.size) :: .c (!en.one) :: .p (i + n ≤ en.n) :: .p (sh i2 n2 ≤ m) :: ps)
                      (K (.int .i64 ((min n2 n : Nat) : Int)) (H.set g { en with get := fun k => SV.ite (i ≤ k ∧ k < i + min n2 n) (get (sh i2 (k - i))) (en.get k) }) nx)
                    | none => False
                  | false => False
                | none => False
              | .slice g b off [] wd i n _ _, .str l => match H.find g with
                | some en => match en.wr with
                  | true => allL (.p (en.b = b ∧ en.off = off) :: .c (Nat.beq en.wd wd) :: .c (Nat.beq wd te.size) :: .c (Nat.beq te.size 1) :: .c (!en.one) :: .p (i + n ≤ en.n) :: [])
                      (K (.int .i64 ((min l.length n : Nat) : Int)) (H.set g { en with get := fun k => SV.ite (i ≤ k ∧ k < i + min l.length n) (.int .u8 (l.getD (k - i) 0).toNat) (en.get k) }) nx)
                  | false => False
                | none => False
              | _, _ => False
            | none => False
          | _ => False
        | _ => False
      | _ => False
    | .value f => match ev fr G f with
      | some (.fn (.func k) l m) => match evs fr G c.args.toList with
        | some a => E.ec k (l ++ (a ++ m)) H nx K
        | none => False
      | _ => False
    | _ => False
  | _ => False

/-- How a part of a code ends; 'panic v': with that panic. -/
inductive EK where
  | normal | exit (id : Nat) | ret | panic (v : SV)
def panicOp : Op → Option Operand
  | .panic x => some x
  | _ => none
/-- A call of a function that may panic. -/
def xcOp (E : Env) (fr : Fr) : Op → Option (FuncId × List SV)
  | .call c => match c.callee with
    | .value f => match ev fr [] f with
      | some (.fn (.func k) l m) => match E.isX k with
        | true => match evs fr [] c.args.toList with
          | some a => some (k, l ++ (a ++ m))
          | none => none
        | false => none
      | _ => none
    | _ => none
  | _ => none
/-- An operation of a region (that does not panic), and what follows. -/
def opRest (E : Env) (N : Nat) (raw dg : Bool) (o : Oper) (fr : Fr) (H : Hp) (nx : Nat) (G : Gd) (next : Fr → Hp → Nat → Prop) : Prop := match dg && !condB G with
        | true => putF false o.dst G (.bool false) fr fun fr' => next fr' H nx
        | false => match pstep E fr H G o.op with
        | some (ps, v) => allP G ps (putF (isNm raw o.op) o.dst G v fr fun fr' => next fr' H nx)
        | none => match G with
          | [] => estep E fr H [] nx (fun v H' nx' => Hp.fo H' fun H2 => putF (isNm raw o.op) o.dst [] v fr fun fr' => next fr' H2 nx') o.op
          | g :: G' => match dg with
            | false => (gHolds (g :: G') → estep E fr H (g :: G') nx (fun v H' nx' => Hp.fo H' fun H2 => putF (isNm raw o.op) o.dst (g :: G') v fr fun fr' => next fr' H2 nx') o.op) ∧
              ((gHolds (g :: G') → False) → putF false o.dst (g :: G') (.bool false) fr fun fr' => next fr' H nx)
            | true => match condB (g :: G') with
              | true => estep E fr H (g :: G') nx (fun v H' nx' => Hp.fo H' fun H2 => putF (isNm raw o.op) o.dst (g :: G') v fr fun fr' => next fr' H2 nx') o.op
              | false => putF false o.dst (g :: G') (.bool false) fr fun fr' => next fr' H nx
/-- The operations of a region, in their order; Kp: where one panics. -/
def exOps (E : Env) (N : Nat) (raw dg : Bool) (all : List Oper) (Kp : SV → Fr → Hp → Nat → Prop) (K : Fr → Hp → Nat → Prop) : List Oper → Fr → Hp → Nat → Prop
  | [], fr, H, nx => K fr H nx
  | o :: rest, fr, H, nx => match panicOp o.op with
   | some x => (match chain fr all o.guard with
    | some [] => (match ev fr [] x with
      | some (.iface t u) => Kp (.iface t u) fr H nx
      | _ => False)
    | _ => False)
   | none =>
    match chain fr all o.guard with
    | some G => match okDst N G fr o.dst with
      | false => False
      | true => match G, xcOp E fr o.op with
       | [], some (k, a) => E.xc k a H nx (fun v H' nx' => Kp v fr H' nx') (fun v H' nx' => Hp.fo H' fun H2 => putF (isNm raw o.op) o.dst [] v fr fun fr' => exOps E N raw dg all Kp K rest fr' H2 nx')
       | _, _ => opRest E N raw dg o fr H nx G fun fr' H' nx' => exOps E N raw dg all Kp K rest fr' H' nx'
    | none => False
/-- The same of a region that draws its order: pure operations alone. -/
def exPure (E : Env) (N : Nat) (raw : Bool) (all : List Oper) (H : Hp) (K : Fr → Prop) : List Oper → Fr → Prop
  | [], fr => K fr
  | o :: rest, fr =>
    match chain fr all o.guard with
    | some G => match okDst N G fr o.dst with
      | false => False
      | true => match pstep E fr H G o.op with
        | some (ps, v) => allP G ps (putF (isNm raw o.op) o.dst G v fr fun fr' => exPure E N raw all H K rest fr')
        | none => False
    | none => False


/-- What is said of a loop (or of a point where ways meet): its state x, the slots that it changes and their values, the tags of the memory that it changes and what lies there at its head, what holds, and a measure. 'key': the first region of its body (of what follows the point). All other memory is only read. -/
structure LA where
  key : Nat
  X : Type
  slots : List Nat
  vals : X → List SV
  tags : List Nat
  ents : X → Hp
  inv : X → Prop
  meas : X → Nat
/-- The orders of a region: take i first; or: those that may come up are these. -/
inductive Sch where
  | fin
  | stop
  | take (i : Nat) (r : Sch)
  | br (i : Nat) (r m : Sch)
  | case (s : Nat) (vals : List Int) (r : Sch)
/-- What is said of a place of the code: a loop, a loop that is unrolled, a region's orders with the slots whose memory changes in it, a point where ways meet, a region whose values get no names, a test that the run decides. -/
inductive An where
  | loop (l : LA)
  | peel (l : LA)
  | nest (l : LA)
  | two (key : Nat) (f g : Fr → Hp → LA)
  | loopD (key : Nat) (f : Fr → Hp → LA)
  | joinD (key : Nat) (f : Fr → Hp → LA) (nx : Nat)
  | unroll (key n : Nat)
  | draw (key : Nat) (s : Sch) (touch : List Nat)
  | join (l : LA) (nx : Nat)
  | raw (key : Nat)
  | det (key : Nat)
  | sure (key : Nat)
  | same (key : Nat)
  | apart (key : Nat)
/-- A loop that changes no memory. -/
def An.lp (key : Nat) (X : Type) (slots : List Nat) (vals : X → List SV) (inv : X → Prop) (meas : X → Nat) : An :=
  .loop ⟨key, X, slots, vals, [], fun _ => [], inv, meas⟩

def firstRegion : Code → Nat
  | .region id _ _ => id
  | .seq a _ => firstRegion a
  | .cond _ a _ => firstRegion a
  | .block _ a => firstRegion a
  | .loop a => firstRegion a
  | .scope a => firstRegion a
  | _ => 0
def An.isLoop (k : Nat) : An → Option An
  | .loop l => match Nat.beq l.key k with
    | true => some (.loop l)
    | false => none
  | .peel l => match Nat.beq l.key k with
    | true => some (.peel l)
    | false => none
  | .nest l => match Nat.beq l.key k with
    | true => some (.nest l)
    | false => none
  | .two key f g => match Nat.beq key k with
    | true => some (.two key f g)
    | false => none
  | .loopD key f => match Nat.beq key k with
    | true => some (.loopD key f)
    | false => none
  | .unroll key n => match Nat.beq key k with
    | true => some (.unroll key n)
    | false => none
  | _ => none
def An.isDraw (k : Nat) : An → Option (Sch × List Nat)
  | .draw key s t => match Nat.beq key k with
    | true => some (s, t)
    | false => none
  | _ => none
def An.isJoin (fr : Fr) (H : Hp) (k : Nat) : An → Option (LA × Nat)
  | .join l nx => match Nat.beq l.key k with
    | true => some (l, nx)
    | false => none
  | .joinD key f nx => match Nat.beq key k with
    | true => some (f fr H, nx)
    | false => none
  | _ => none
def An.isRaw (k : Nat) : An → Option Unit
  | .raw key => match Nat.beq key k with
    | true => some ()
    | false => none
  | _ => none
def An.isDet (k : Nat) : An → Option Unit
  | .det key => match Nat.beq key k with
    | true => some ()
    | false => none
  | _ => none
def An.isSure (k : Nat) : An → Option Unit
  | .sure key => match Nat.beq key k with
    | true => some ()
    | false => none
  | _ => none
def An.isSame (k : Nat) : An → Option Unit
  | .same key => match Nat.beq key k with
    | true => some ()
    | false => none
  | _ => none
def An.isApart (k : Nat) : An → Option Unit
  | .apart key => match Nat.beq key k with
    | true => some ()
    | false => none
  | _ => none
def firstOf {α : Type 1} {β : Type u} (f : α → Option β) : List α → Option β
  | [] => none
  | a :: r => match f a with
    | some b => some b
    | none => firstOf f r
def An.loop? (A : List An) (k : Nat) : Option An := firstOf (An.isLoop k) A
def An.draw? (A : List An) (k : Nat) : Option (Sch × List Nat) := firstOf (An.isDraw k) A
def An.join? (fr : Fr) (H : Hp) (A : List An) (k : Nat) : Option (LA × Nat) := firstOf (An.isJoin fr H k) A
/-- For what is said at a place: what a slot holds, what lies under a tag. -/
def slotV (fr : Fr) (s : Nat) : SV := match fr.find s with
  | some e => e.v
  | none => .bool false
def entG (H : Hp) (g : Nat) : Ent := match H.find g with
  | some e => e
  | none => ⟨g, 0, 0, 0, 0, fun _ => .bool false, false, false, 0, 0, true, none⟩
def An.raw? (A : List An) (k : Nat) : Bool := match firstOf (An.isRaw k) A with
  | some _ => true
  | none => false
def An.det? (A : List An) (k : Nat) : Bool := match firstOf (An.isDet k) A with
  | some _ => true
  | none => false
def An.sure? (A : List An) (k : Nat) : Bool := match firstOf (An.isSure k) A with
  | some _ => true
  | none => false
def An.same? (A : List An) (k : Nat) : Bool := match firstOf (An.isSame k) A with
  | some _ => true
  | none => false
def An.apart? (A : List An) (k : Nat) : Bool := match firstOf (An.isApart k) A with
  | some _ => true
  | none => false
/-- An owned family and an owned row share no block. -/
def apartOf (e : Ent) : Hp → Prop → Prop
  | [], k => k
  | x :: r, k => match e.own, e.fam, x.own, x.fam with
    | true, some f, true, none => (e.z = false → x.z = false → ∀ i, i < e.n → (e.get i).sz ≠ 0 → (f i).1 ≠ x.b) → apartOf e r k
    | _, _, _, _ => apartOf e r k
def apartH (H : Hp) : Hp → Prop → Prop
  | [], k => k
  | e :: r, k => match e.fam with
    | some _ => apartOf e H (apartH H r k)
    | none => apartH H r k
def apartQ (A : List An) (id : Nat) (H : Hp) (k : Prop) : Prop := match An.apart? A id with
  | true => apartH H H k
  | false => k
/-- The slots that a code names as destinations. -/
def assigned : Code → List Nat → List Nat
  | .region _ ops _, acc => ops.toList.foldr (fun o l => match o.dst with | some s => s :: l | none => l) acc
  | .seq a b, acc => assigned a (assigned b acc)
  | .cond _ a b, acc => assigned a (assigned b acc)
  | .block _ a, acc => assigned a acc
  | .loop a, acc => assigned a acc
  | .scope a, acc => assigned a acc
  | _, acc => acc
def memN (s : Nat) : List Nat → Bool
  | [] => false
  | k :: r => match Nat.beq s k with
    | true => true
    | false => memN s r
/-- The frame's entries of slots that are not killed; what is guarded goes too. -/
def keepFr (kill : List Nat) : Fr → Fr
  | [] => []
  | ⟨s, gd, v⟩ :: r => match memN s kill with
    | true => keepFr kill r
    | false => match gd with
      | [] => ⟨s, [], v⟩ :: keepFr (s :: kill) r
      | _ :: _ => keepFr (s :: kill) r
theorem keepFr_cons (kill : List Nat) (e : FE) (r : Fr) : keepFr kill (e :: r) = match memN e.s kill with
    | true => keepFr kill r
    | false => match e.gd with
      | [] => e :: keepFr (e.s :: kill) r
      | _ :: _ => keepFr (e.s :: kill) r := by
  obtain ⟨s, gd, v⟩ := e
  cases gd <;> rfl
def Fr.app : Fr → Fr → Fr
  | [], H => H
  | e :: r, H => e :: Fr.app r H
def zipFr : List Nat → List SV → Fr
  | s :: r, v :: l => ⟨s, [], v⟩ :: zipFr r l
  | _, _ => []
/-- Two values that denote the same. -/
structure SVeq (u v : SV) : Prop where
  den : u.den = v.den
  flat : u.flat = v.flat
  sz : u.sz = v.sz
  wf : u.wf → v.wf
/-- Paths of one form: what makes them one. -/
def eqPath : List PS → List PS → Option (List Prop)
  | [], [] => some []
  | .elt i wd :: r, .elt j wd' :: q => match Nat.beq wd wd' with
    | true => match eqPath r q with
      | some p => match wd with
        | 0 => some p
        | _ + 1 => some ((i = j) :: p)
      | none => none
    | false => none
  | .fld _ o :: r, .fld _ o' :: q => match Nat.beq o o' with
    | true => eqPath r q
    | false => none
  | _, _ => none
def conjP : List Prop → Prop → Prop
  | [], k => k
  | p :: r, k => p ∧ conjP r k
/-- Two values denote the same: said of their parts (so many levels of them; folded, so that what is stuck stays short). -/
def eqv0 (u v : SV) : Prop := match u, v with
  | .int k x, .int k' y => match kindEq k k' with
    | true => x = y
    | false => False
  | .bool x, .bool y => x = y
  | .str x, .str y => x = y
  | .ptr g b off p, .ptr g' b' off' p' => match eqPath p p' with
    | some q => conjP q (b = b' ∧ off = off')
    | none => SVeq (.ptr g b off p) (.ptr g' b' off' p')
  | .slice g b off p wd i n c z, .slice g' b' off' p' wd' i' n' c' z' => match Nat.beq wd wd' with
    | true => match eqPath p p' with
      | some q => conjP q (b = b' ∧ off = off' ∧ i = i' ∧ n = n' ∧ c = c' ∧ z = z')
      | none => SVeq (.slice g b off p wd i n c z) (.slice g' b' off' p' wd' i' n' c' z')
    | false => SVeq (.slice g b off p wd i n c z) (.slice g' b' off' p' wd' i' n' c' z')
  | .map g b i, .map g' b' i' => b = b'
  | u, v => SVeq u v
def eqvP (f : SV → SV → Prop) : List SV → List SV → Prop
  | [], [] => True
  | u :: l, v :: m => match l with
    | [] => match m with
      | [] => f u v
      | _ :: _ => False
    | _ :: _ => f u v ∧ eqvP f l m
  | _, _ => False
def eqv1 (u v : SV) : Prop := match u, v with
  | .agg l, .agg m => eqvP eqv0 l m
  | .tup l, .tup m => eqvP eqv0 l m
  | u, v => eqv0 u v
def eqv2 (u v : SV) : Prop := match u, v with
  | .agg l, .agg m => eqvP eqv1 l m
  | .tup l, .tup m => eqvP eqv1 l m
  | u, v => eqv0 u v
def eqv3 (u v : SV) : Prop := match u, v with
  | .agg l, .agg m => eqvP eqv2 l m
  | .tup l, .tup m => eqvP eqv2 l m
  | u, v => eqv0 u v
def eqv (u v : SV) : Prop := match u, v with
  | .agg l, .agg m => eqvP eqv3 l m
  | .tup l, .tup m => eqvP eqv3 l m
  | u, v => eqv0 u v
/-- The frame agrees with these values. -/
def agrees (fr : Fr) : List Nat → List SV → Prop → Prop
  | s :: r, v :: l, k => (match fr.find s with
    | some ⟨_, [], u⟩ => eqv u v
    | _ => False) ∧ agrees fr r l k
  | [], [], k => k
  | _, _, _ => False
/-- Entry e' stands for what is said as e. -/
def entLe (e' e : Ent) : Prop := match e'.own, e'.fam, e.own, e.fam, e.one with
  | true, none, true, none, one => match Nat.beq e'.wd e.wd, Nat.beq e'.t e.t, (match one with | true => Nat.ble e.n 1 | false => true) with
    | true, true, true => (e'.b = e.b ∧ e'.off = e.off ∧ e'.z = e.z ∧ e.n ≤ e'.n ∧ e.n ≤ e.cap ∧ e.cap ≤ e'.cap) ∧ (match one with
      | true => eqv (e'.get 0) (e.get 0)
      | false => ∀ i, i < e.n → eqv (e'.get i) (e.get i))
    | _, _, _ => False
  | _, _, _, _, _ => False
/-- New names of tags: (from, to). -/
def renG : List (Nat × Nat) → Nat → Nat
  | [], g => g
  | (a, b) :: r, g => match Nat.beq g a with
    | true => b
    | false => renG r g
/-- Under which tag a tag of the head's stands now: read off the slots. -/
def tagPairs (fr : Fr) : List Nat → List SV → List (Nat × Nat)
  | s :: r, v :: l => match fr.find s with
    | some ⟨_, _, u⟩ => match v, u with
      | .ptr g _ _ _, .ptr g' _ _ _ => (g, g') :: tagPairs fr r l
      | .slice g _ _ _ _ _ _ _ _, .slice g' _ _ _ _ _ _ _ _ => match Nat.beq g' 999999 with
        | true => (g, 1000000 + g) :: tagPairs fr r l
        | false => (g, g') :: tagPairs fr r l
      | .map g _ _, .map g' _ _ => (g, g') :: tagPairs fr r l
      | _, _ => tagPairs fr r l
    | none => tagPairs fr r l
  | _, _ => []
/-- Two values denote the same; of arrays: part by part. -/
def eqvA (u v : SV) : Prop := match u, v with
  | .mobj h g, .mobj h' g' => (∀ x, h x = h' x) ∧ ∀ x, h x = true → eqv (g x) (g' x)
  | _, .mobj _ _ => False
  | .mobj _ _, _ => False
  | .arr n wd f, .arr n' wd' g => (match Nat.beq wd wd' with
    | true => n = n' ∧ ∀ k, k < n → eqv (f k) (g k)
    | false => False)
  | u, v => eqv u v
/-- Entry e' gives element i of the family e, which lies where f says. -/
def famSrc (e' e : Ent) (f : Nat → Nat × Nat) (i : Nat) : Prop := match e'.fam with
  | some f' => ∃ j : Nat, j < e'.n ∧ f' j = f i ∧ eqvA (e'.get j) (e.get i)
  | none => match e'.one with
    | true => e'.z = false ∧ (e'.b, e'.off) = f i ∧ 0 < e'.n ∧ eqvA (e'.get 0) (e.get i)
    | false => e'.z = false ∧ (e'.b, e'.off) = f i ∧ eqvA (.arr e'.n e'.wd e'.get) (e.get i)
def famSrcs (l : List Ent) (e : Ent) (f : Nat → Nat × Nat) (i : Nat) : Prop := match l with
  | [] => False
  | e' :: r => match r with
    | [] => famSrc e' e f i
    | _ :: _ => famSrc e' e f i ∨ famSrcs r e f i
/-- What may become part of a family of elements of type t: owned rows and families that the tags cl do not name. -/
def famCands (cl : List Nat) (t : TypeId) : Hp → List Ent
  | [] => []
  | e :: r => match e.own with
    | true => match Nat.beq e.t t with
      | true => (match memN e.g cl with
        | true => famCands cl t r
        | false => e :: famCands cl t r)
      | false => famCands cl t r
    | false => famCands cl t r
def famHead (o : Option Ent) : List Ent := match o with
  | some e => match e.own with
    | true => match e.fam with
      | some _ => [e]
      | none => []
    | false => []
  | none => []
/-- The heap H holds what the second list says, tag by tag (under new names); an owned family: of what was one, and of rows that no other entry of the list stands for. -/
def hpAgrees (H : Hp) (ren : List (Nat × Nat)) (cl : List Nat) : Hp → Prop → Prop
  | [], k => k
  | e :: r, k => (match e.own, e.fam with
    | true, some f => ∀ i, i < e.n → famSrcs (famHead (H.find (renG ren e.g)) ++ famCands cl e.t H) e f i
    | _, _ => match H.find (renG ren e.g) with
      | some e' => entLe e' e
      | none => match e.own, e.fam with
        | true, none => e.z = true ∧ e.n = 0 ∧ e.cap = 0
        | _, _ => False) ∧ hpAgrees H ren cl r k
/-- The tags that the entries stand for. -/
def claims (ren : List (Nat × Nat)) : Hp → List Nat
  | [] => []
  | e :: r => renG ren e.g :: claims ren r
/-- No two owned families of one type; none of them is said to be nil's. -/
def famOk : Hp → List Nat → Bool
  | [], _ => true
  | e :: r, l => match e.own, e.fam with
    | true, some _ => match memN e.t l with
      | true => false
      | false => match e.z, e.one with
        | false, false => famOk r (e.t :: l)
        | _, _ => false
    | _, _ => famOk r l
/-- No tag stands twice. -/
def nodupG (ren : List (Nat × Nat)) : Hp → List Nat → Bool
  | [], _ => true
  | e :: r, l => match memN (renG ren e.g) l with
    | true => false
    | false => nodupG ren r (renG ren e.g :: l)
/-- A frame, evaluated, handed on. -/
def Fr.fo : Fr → (Fr → Prop) → Prop
  | [], K => K []
  | ⟨s, gd, v⟩ :: r, K => Fr.fo r fun r' => K (⟨s, gd, v⟩ :: r')
theorem Fr.fo_iff : ∀ (fr : Fr) (K : Fr → Prop), Fr.fo fr K ↔ K fr
  | [], K => Iff.rfl
  | ⟨s, gd, v⟩ :: r, K => Fr.fo_iff r _
/-- The tags that slots lead to (100000 + g: the tag g itself). -/
def tagsOf (fr : Fr) : List Nat → List Nat
  | [] => []
  | s :: r => match Nat.ble 100000 s with
    | true => (s - 100000) :: tagsOf fr r
    | false => match fr.find s with
      | some ⟨_, _, .ptr g _ _ _⟩ => g :: tagsOf fr r
      | some ⟨_, _, .slice g _ _ _ _ _ _ _ _⟩ => g :: tagsOf fr r
      | some ⟨_, _, .map g _ _⟩ => g :: tagsOf fr r
      | _ => tagsOf fr r
/-- The entries of these tags; the others; the others, only to be read; what is owned. -/
def Hp.only (t : List Nat) : Hp → Hp
  | [] => []
  | e :: r => match memN e.g t with
    | true => e :: Hp.only t r
    | false => Hp.only t r
def Hp.minus (t : List Nat) : Hp → Hp
  | [] => []
  | e :: r => match memN e.g t with
    | true => Hp.minus t r
    | false => e :: Hp.minus t r
def Ent.ro (e : Ent) : Ent := match e with
  | ⟨g, b, off, wd, n, get, _, one, cap, t, z, fam⟩ => ⟨g, b, off, wd, n, get, false, one, cap, t, z, fam⟩
def Hp.ro : Hp → Hp
  | [] => []
  | e :: r => e.ro :: Hp.ro r
def Hp.owned : Hp → Hp
  | [] => []
  | e :: r => match e.own with
    | true => e :: Hp.owned r
    | false => Hp.owned r
def Hp.app : Hp → Hp → Hp
  | [], H => H
  | e :: r, H => e :: Hp.app r H
/-- The memory behind a part that ran with F only read. -/
def unfr (F H' : Hp) : Hp := Hp.app (Hp.owned H') F

def Sch.depth : Sch → Nat
  | .fin => 0
  | .stop => 0
  | .take _ r => r.depth + 1
  | .br _ r m => Nat.max (r.depth + 1) m.depth
  | .case _ _ r => r.depth
def Sch.isStop : Sch → Bool
  | .stop => true
  | _ => false
def Sch.heads : Sch → List Nat
  | .br i _ m => i :: m.heads
  | _ => []
/-- The tree covers all orders. -/
def Sch.okB (ops : Array Oper) : Bool → Sch → Array Bool → Bool
  | true, .fin, l => (Region.ready .any ops l).isEmpty
  | true, .take i r, l => (Region.ready .any ops l).contains i && Region.free .any ops l i && Sch.okB ops true r (l.setIfInBounds i true)
  | true, .br i r m, l => (Region.ready .any ops l == i :: m.heads) && Sch.okB ops true r (l.setIfInBounds i true) && Sch.okB ops false m l
  | false, .br i r m, l => Sch.okB ops true r (l.setIfInBounds i true) && Sch.okB ops false m l
  | true, .case _ _ r, l => Sch.okB ops true r l
  | false, .stop, _ => true
  | _, _, _ => false
def schOk (ops : Array Oper) (s : Sch) : Bool := Region.noSelect ops && Nat.ble s.depth ops.size && Sch.okB ops true s (Array.replicate ops.size false)

/-- The integer is one of these; for each: go on with it. -/
def caseI (x : Int) (K : Int → Prop) : List Int → Prop
  | [] => True
  | c :: r => (x = c → K c) ∧ caseI x K r
def oneOf (x : Int) : List Int → Prop
  | [] => False
  | [c] => x = c
  | c :: r => x = c ∨ oneOf x r
theorem case_to {x : Int} {K : Int → Prop} : ∀ (l : List Int), oneOf x l → caseI x K l → K x
  | [], h, _ => h.elim
  | [c], h, g => h ▸ g.1 h
  | c :: d :: r, h, g => by
    rcases h with h | h
    · exact h ▸ g.1 h
    · exact case_to (d :: r) h g.2
/-- The operations of a region that draws its order, along the tree: what is taken first needs only the memory S, which stays as it is. -/
def exSch (E : Env) (N : Nat) (raw : Bool) (all : List Oper) (S : Hp) (K : Fr → Hp → Nat → Prop) : Sch → Fr → Hp → Nat → Prop
  | .fin, fr, H, nx => K fr H nx
  | .stop, _, _, _ => True
  | .take i r, fr, H, nx => match nth all i with
    | some o => match chain fr all o.guard with
      | some G => match okDst N G fr o.dst with
        | false => False
        | true => match pstep E fr S G o.op with
          | some (ps, v) => allP G ps (putF (isNm raw o.op) o.dst G v fr fun fr' => exSch E N raw all S K r fr' H nx)
          | none => False
      | none => False
    | none => False
  | .br i r m, fr, H, nx => (match nth all i with
    | some o => match chain fr all o.guard with
      | some G => match okDst N G fr o.dst with
        | false => False
        | true => match pstep E fr H G o.op with
          | some (ps, v) => allP G ps (putF (isNm raw o.op) o.dst G v fr fun fr' => exSch E N raw all S K r fr' H nx)
          | none => match G with
            | [] => estep E fr H [] nx (fun v H' nx' => Hp.fo H' fun H2 => putF (isNm raw o.op) o.dst [] v fr fun fr' => exSch E N raw all S K r fr' H2 nx') o.op
            | g :: G' => (gHolds (g :: G') → estep E fr H (g :: G') nx (fun v H' nx' => Hp.fo H' fun H2 => putF (isNm raw o.op) o.dst (g :: G') v fr fun fr' => exSch E N raw all S K r fr' H2 nx') o.op) ∧
              ((gHolds (g :: G') → False) → putF false o.dst (g :: G') (.bool false) fr fun fr' => exSch E N raw all S K r fr' H nx)
      | none => False
    | none => False) ∧ (match m.isStop with
    | true => True
    | false => exSch E N raw all S K m fr H nx)
  | .case t vals r, fr, H, nx => match fr.find t with
    | some ⟨_, [], .int k x⟩ => oneOf x vals ∧ caseI x (fun c => exSch E N raw all S K r (⟨t, [], .int k c⟩ :: fr) H nx) vals
    | _ => False

/-- A loop's rounds, at most so many. -/
def exIter (step : Fr → Hp → Nat → (EK → Fr → Hp → Nat → Prop) → Prop) (K : EK → Fr → Hp → Nat → Prop) : Nat → Fr → Hp → Nat → Prop
  | 0, _, _, _ => False
  | n + 1, fr, H, nx => step fr H nx fun e fr' H' nx' => match e with
    | .normal => Fr.fo (keepFr [] fr') fun fr1 => exIter step K n fr1 H' nx'
    | e => K e fr' H' nx'

/-! Names of tags, read off two values: (as said, as it stands). -/
mutual
def pairSV : SV → SV → List (Nat × Nat)
  | .ptr g' _ _ _, v => match v with
    | .ptr g _ _ _ => [(g, g')]
    | _ => []
  | .slice g' _ _ _ _ _ _ _ _, v => match v with
    | .slice g _ _ _ _ _ _ _ _ => match Nat.beq g' 999999 with
      | true => [(g, 1000000 + g)]
      | false => [(g, g')]
    | _ => []
  | .agg l, v => match v with
    | .agg m => pairSVL l m
    | _ => []
  | .tup l, v => match v with
    | .tup m => pairSVL l m
    | _ => []
  | .map g' _ _, v => match v with
    | .map g _ _ => [(g, g')]
    | _ => []
  | _, _ => []
def pairSVL : List SV → List SV → List (Nat × Nat)
  | [], _ => []
  | u :: l, m => match m with
    | v :: m => pairSV u v ++ pairSVL l m
    | [] => []
end
/-- .. and off the variables' values. -/
def memPairs (H : Hp) (ren : List (Nat × Nat)) : Hp → List (Nat × Nat)
  | [] => []
  | e :: r => match e.one with
    | true => (match H.find (renG ren e.g) with
      | some e' => pairSV (e'.get 0) (e.get 0)
      | none => []) ++ memPairs H ren r
    | false => memPairs H ren r
/-- .. and off a row's first k elements: said as a tag 200000 + 16 * g + k. -/
def pairN (e' e : Ent) : Nat → List (Nat × Nat)
  | 0 => []
  | k + 1 => pairSV (e'.get k) (e.get k) ++ pairN e' e k
def rowPairs (H D : Hp) (ren : List (Nat × Nat)) : List Nat → List (Nat × Nat)
  | [] => []
  | t :: r => match Nat.ble 200000 t with
    | true => (match D.find ((t - 200000) / 16) with
      | some e => (match H.find (renG ren e.g) with
        | some e' => pairN e' e ((t - 200000) % 16)
        | none => [])
      | none => []) ++ rowPairs H D ren r
    | false => rowPairs H D ren r
def pairsM (fr : Fr) (H : Hp) (slots : List Nat) (vals : List SV) (D : Hp) : List (Nat × Nat) := tagPairs fr slots vals ++ memPairs H (tagPairs fr slots vals) D
/-- .. and once more off the variables' values, where rows have given names. -/
def againP (H D : Hp) (ren : List (Nat × Nat)) : List (Nat × Nat) → List (Nat × Nat)
  | [] => ren
  | p :: r => (ren ++ (p :: r)) ++ memPairs H (ren ++ (p :: r)) D
def pairsR (H D : Hp) (tags : List Nat) (ren : List (Nat × Nat)) : List (Nat × Nat) := againP H D ren (rowPairs H D ren tags)
def pairsA (L : LA) (fr : Fr) (H : Hp) (x : L.X) : List (Nat × Nat) := pairsR H (L.ents x) L.tags (pairsM fr H L.slots (L.vals x) (L.ents x))
/-- The state x of L is met. -/
def meets (L : LA) (fr : Fr) (H : Hp) (x : L.X) (k : Prop) : Prop :=
  agrees fr L.slots (L.vals x) (match nodupG (pairsA L fr H x) (L.ents x) [] with
    | true => (match famOk (L.ents x) [] with
      | true => hpAgrees H (pairsA L fr H x) (claims (pairsA L fr H x) (L.ents x)) (L.ents x) k
      | false => False)
    | false => False)

/-- A loop by what is said of its head. -/
def exLoop (step : Fr → Hp → Nat → (EK → Fr → Hp → Nat → Prop) → Prop) (L : LA) (ass : List Nat) (K : EK → Fr → Hp → Nat → Prop) (fr : Fr) (H : Hp) (nx : Nat) : Prop :=
  (∃ x : L.X, meets L fr (Hp.only L.tags H) x (L.inv x)) ∧
  ∀ x : L.X, L.inv x → Fr.fo (Fr.app (zipFr L.slots (L.vals x)) (keepFr (L.slots ++ ass) fr)) fun fr1 => Hp.fo (Hp.app (L.ents x) (Hp.ro (Hp.minus L.tags H))) fun H1 => step fr1 H1 nx fun e fr' H' nx' => match e with
    | .normal => ∃ y : L.X, meets L fr' H' y (L.inv y ∧ L.meas y < L.meas x)
    | e => K e fr' (unfr (Hp.minus L.tags H) H') nx'
/-- A loop of two stages: what is said of its head in the first, what in the second (which once begun stays). -/
def exTwo (step : Fr → Hp → Nat → (EK → Fr → Hp → Nat → Prop) → Prop) (L M : LA) (ass : List Nat) (K : EK → Fr → Hp → Nat → Prop) (fr : Fr) (H : Hp) (nx : Nat) : Prop :=
  (∃ x : L.X, meets L fr (Hp.only L.tags H) x (L.inv x)) ∧
  (∀ x : L.X, L.inv x → Fr.fo (Fr.app (zipFr L.slots (L.vals x)) (keepFr (L.slots ++ ass) fr)) fun fr1 => Hp.fo (Hp.app (L.ents x) (Hp.ro (Hp.minus L.tags H))) fun H1 => step fr1 H1 nx fun e fr' H' nx' => match e with
    | .normal => (∃ y : L.X, meets L fr' H' y (L.inv y ∧ L.meas y < L.meas x)) ∨ (∃ y : M.X, meets M fr' H' y (M.inv y))
    | e => K e fr' (unfr (Hp.minus L.tags H) H') nx') ∧
  ∀ y : M.X, M.inv y → Fr.fo (Fr.app (zipFr M.slots (M.vals y)) (keepFr (M.slots ++ ass) fr)) fun fr1 => Hp.fo (Hp.app (M.ents y) (Hp.ro (Hp.minus L.tags H))) fun H1 => step fr1 H1 nx fun e fr' H' nx' => match e with
    | .normal => ∃ z : M.X, meets M fr' H' z (M.inv z ∧ M.meas z < M.meas y)
    | e => K e fr' (unfr (Hp.minus L.tags H) H') nx'
/-- What two values that denote the same have in common. -/
def sameV : SV → SV → Prop
  | .int _ x, .int _ y => x = y
  | .bool x, .bool y => x = y
  | .str x, .str y => x = y
  | .ptr _ b _ _, .ptr _ b' _ _ => b = b'
  | _, _ => True
/-- What the slots that a loop names but does not write hold is the same as before it. -/
def sames (fr D : Fr) (ass : List Nat) : List Nat → Prop → Prop
  | [], k => k
  | s :: r, k => match memN s ass with
    | true => sames fr D ass r k
    | false => match fr.find s with
      | some ⟨_, [], u⟩ => match D.find s with
        | some ⟨_, [], v⟩ => sameV u v → sames fr D ass r k
        | _ => sames fr D ass r k
      | _ => sames fr D ass r k
/-- .. with what its slots tell of the state before the loop. -/
def exNest (step : Fr → Hp → Nat → (EK → Fr → Hp → Nat → Prop) → Prop) (L : LA) (ass : List Nat) (K : EK → Fr → Hp → Nat → Prop) (fr : Fr) (H : Hp) (nx : Nat) : Prop :=
  (∃ x : L.X, meets L fr (Hp.only L.tags H) x (L.inv x)) ∧
  ∀ x : L.X, L.inv x → sames fr (zipFr L.slots (L.vals x)) ass L.slots (Fr.fo (Fr.app (zipFr L.slots (L.vals x)) (keepFr (L.slots ++ ass) fr)) fun fr1 => Hp.fo (Hp.app (L.ents x) (Hp.ro (Hp.minus L.tags H))) fun H1 => step fr1 H1 nx fun e fr' H' nx' => match e with
    | .normal => ∃ y : L.X, meets L fr' H' y (L.inv y ∧ L.meas y < L.meas x)
    | e => K e fr' (unfr (Hp.minus L.tags H) H') nx')
def exCode (E : Env) (N : Nat) (A : List An) : Code → Fr → Hp → Nat → (EK → Fr → Hp → Nat → Prop) → Prop
  | .skip, fr, H, nx, K => K .normal fr H nx
  | .label _, fr, H, nx, K => K .normal fr H nx
  | .ret, fr, H, nx, K => K .ret fr H nx
  | .exit id, fr, H, nx, K => K (.exit id) fr H nx
  | .seq a b, fr, H, nx, K => match An.join? fr H A (firstRegion b) with
    | none => exCode E N A a fr H nx fun e fr' H' nx' => match e with
      | .normal => exCode E N A b fr' H' nx' K
      | e => K e fr' H' nx'
    | some (L, nx0) => (exCode E N A a fr (Hp.app (Hp.only L.tags H) (Hp.ro (Hp.minus L.tags H))) nx fun e fr' H' nx' => match e with
      | .normal => ∃ x : L.X, meets L fr' H' x (L.inv x)
      | e => K e fr' (unfr (Hp.minus L.tags H) H') nx') ∧
      ∀ x : L.X, L.inv x → (match An.same? A (firstRegion b) with
        | true => sames fr (zipFr L.slots (L.vals x)) (assigned a []) L.slots (Fr.fo (Fr.app (zipFr L.slots (L.vals x)) (keepFr (L.slots ++ assigned a []) fr)) fun fr1 => Hp.fo (Hp.app (L.ents x) (Hp.minus L.tags H)) fun H1 => exCode E N A b fr1 H1 nx0 K)
        | false => Fr.fo (Fr.app (zipFr L.slots (L.vals x)) (keepFr (L.slots ++ assigned a []) fr)) fun fr1 => Hp.fo (Hp.app (L.ents x) (Hp.minus L.tags H)) fun H1 => exCode E N A b fr1 H1 nx0 K)
  | .cond c a b, fr, H, nx, K => match ev fr [] c with
    | some (.bool t) => match An.det? A (firstRegion (.cond c a b)) with
      | true => match t with
        | true => exCode E N A a fr H nx K
        | false => exCode E N A b fr H nx K
      | false => (t = true → exCode E N A a fr H nx K) ∧ (t = false → exCode E N A b fr H nx K)
    | _ => False
  | .scope c, fr, H, nx, K => exCode E N A c fr H nx K
  | .block id c, fr, H, nx, K => exCode E N A c fr H nx fun e fr' H' nx' => match e with
    | .exit id' => match Nat.beq id' id with
      | true => K .normal fr' H' nx'
      | false => K (.exit id') fr' H' nx'
    | e => K e fr' H' nx'
  | .region id ops draw, fr, H, nx, K => apartQ A id H (match draw with
    | false => exOps E N (An.raw? A id) (An.sure? A id) ops.toList (fun v fr' H' nx' => K (.panic v) fr' H' nx') (K .normal) ops.toList fr H nx
    | true => match An.draw? A id with
      | none => match lexOk ops with
        | true => exPure E N (An.raw? A id) ops.toList H (fun fr' => K .normal fr' H nx) ops.toList fr
        | false => False
      | some (s, t) => match schOk ops s with
        | true => exSch E N (An.raw? A id) ops.toList (Hp.ro (Hp.minus (tagsOf fr t) H)) (fun fr' H' nx' => K .normal fr' (unfr (Hp.minus (tagsOf fr t) H) H') nx') s fr (Hp.app (Hp.only (tagsOf fr t) H) (Hp.ro (Hp.minus (tagsOf fr t) H))) nx
        | false => False)
  | .loop c, fr, H, nx, K => match An.loop? A (firstRegion c) with
    | some (.loop L) => exLoop (fun fr' H' nx' K' => exCode E N A c fr' H' nx' K') L (assigned c []) K fr H nx
    | some (.loopD _ f) => exLoop (fun fr' H' nx' K' => exCode E N A c fr' H' nx' K') (f fr H) (assigned c []) K fr H nx
    | some (.nest L) => exNest (fun fr' H' nx' K' => exCode E N A c fr' H' nx' K') L (assigned c []) K fr H nx
    | some (.two _ f g) => exTwo (fun fr' H' nx' K' => exCode E N A c fr' H' nx' K') (f fr H) (g fr H) (assigned c []) K fr H nx
    | some (.peel L) => exCode E N A c fr H nx fun e fr1 H1 nx1 => match e with
      | .normal => exLoop (fun fr' H' nx' K' => exCode E N A c fr' H' nx' K') L (assigned c []) K fr1 H1 nx1
      | e => K e fr1 H1 nx1
    | some (.unroll _ n) => exIter (fun fr' H' nx' K' => exCode E N A c fr' H' nx' K') K n fr H nx
    | _ => False
  | _, _, _, _, _ => False

def argFr : Nat → List SV → Fr
  | _, [] => []
  | s, v :: r => ⟨s, [], v⟩ :: argFr (s + 1) r
def outs (E : Env) (fr : Fr) (H : Hp) : List ResultVar → Option (List Ob × List SV)
  | [] => some ([], [])
  | .tmp t :: r => match ev fr [] (.tmp t) with
    | some v => match outs E fr H r with
      | some (ps, l) => some (ps, v :: l)
      | none => none
    | none => none
  | .cell a t :: r => match pstep E fr H [] (.load t (.tmp a)) with
    | some (ps, v) => match outs E fr H r with
      | some (qs, l) => some (ps ++ qs, v :: l)
      | none => none
    | none => none
def outSV : List SV → SV
  | [v] => v
  | l => .tup l
/-- What stands at a function's end. -/
def atEnd (E : Env) (rs : List ResultVar) (K : SV → Hp → Nat → Prop) : EK → Fr → Hp → Nat → Prop
  | .exit _, _, _, _ => False
  | .panic _, _, _, _ => False
  | _, fr, H, nx => match outs E fr H rs with
    | some (ps, l) => allL ps (K (outSV l) H nx)
    | none => False
end Eng
