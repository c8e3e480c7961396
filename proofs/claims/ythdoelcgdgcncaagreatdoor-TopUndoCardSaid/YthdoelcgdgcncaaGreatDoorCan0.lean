/- The evaluator and its soundness, part 0: what it says of a call, the program does, whatever the tape. No condition. -/
import GoSem.Core.Lib
import GoSem.Core.Machine
import GoSem.Dispatch
import Derived.Laws.Sem
import Derived.Laws.World
import Derived.Laws.Cells
import Derived.Laws.CopyRow
import Derived.RangeFuncIn
import Derived.RangeFuncLeaves
import Derived.LoopNIn
import Derived.Laws.Append
import Derived.Laws.AppendOwn
namespace Go.Can
noncomputable section

/-! ## a map keyed by numbers -/

inductive Path where
  | z
  | a (p : Path)
  | b (p : Path)
  | c (p : Path)
  | d (p : Path)

/-- the way to a number's place: base four, without noughts -/
def pathF (f : Nat) : Nat → Path :=
  Nat.rec (motive := fun _ => Nat → Path) (fun _ => .z)
    (fun _ ih n => Nat.rec .z (fun m _ =>
      Nat.rec (.a (ih (Nat.div m 4))) (fun r _ => Nat.rec (.b (ih (Nat.div m 4))) (fun r _ => Nat.rec (.c (ih (Nat.div m 4))) (fun _ _ => .d (ih (Nat.div m 4))) r) r) (Nat.mod m 4)) n) f

def path (n : Nat) : Path := pathF (Nat.succ n) n

inductive T (α : Type) where
  | nil
  | node (v : Option α) (c0 c1 c2 c3 : T α)

/-- what a run comes to: an end, or a place where the evaluator stands still -/
inductive Res (β : Type) where
  | ok (b : β)
  | bad (n : Nat)

section
variable {α β : Type}

def getP (p : Path) : T α → Option α :=
  Path.rec (motive := fun _ => T α → Option α)
    (fun t => T.rec none (fun v _ _ _ _ _ _ _ _ => v) t)
    (fun _ ih t => T.rec none (fun _ c0 _ _ _ _ _ _ _ => ih c0) t)
    (fun _ ih t => T.rec none (fun _ _ c1 _ _ _ _ _ _ => ih c1) t)
    (fun _ ih t => T.rec none (fun _ _ _ c2 _ _ _ _ _ => ih c2) t)
    (fun _ ih t => T.rec none (fun _ _ _ _ c3 _ _ _ _ => ih c3) t) p

def setP (x : Option α) (p : Path) : T α → (T α → Res β) → Res β :=
  Path.rec (motive := fun _ => T α → (T α → Res β) → Res β)
    (fun t k => T.rec (k (.node x .nil .nil .nil .nil)) (fun _ c0 c1 c2 c3 _ _ _ _ => k (.node x c0 c1 c2 c3)) t)
    (fun _ ih t k => T.rec (ih .nil fun c => k (.node none c .nil .nil .nil)) (fun v c0 c1 c2 c3 _ _ _ _ => ih c0 fun c => k (.node v c c1 c2 c3)) t)
    (fun _ ih t k => T.rec (ih .nil fun c => k (.node none .nil c .nil .nil)) (fun v c0 c1 c2 c3 _ _ _ _ => ih c1 fun c => k (.node v c0 c c2 c3)) t)
    (fun _ ih t k => T.rec (ih .nil fun c => k (.node none .nil .nil c .nil)) (fun v c0 c1 c2 c3 _ _ _ _ => ih c2 fun c => k (.node v c0 c1 c c3)) t)
    (fun _ ih t k => T.rec (ih .nil fun c => k (.node none .nil .nil .nil c)) (fun v c0 c1 c2 c3 _ _ _ _ => ih c3 fun c => k (.node v c0 c1 c2 c)) t) p

def T.get (t : T α) (n : Nat) : Option α := getP (path n) t
def T.setK (t : T α) (n : Nat) (x : α) (k : T α → Res β) : Res β := setP (some x) (path n) t k
def T.delK (t : T α) (n : Nat) (k : T α → Res β) : Res β := setP none (path n) t k

def optK (c : Nat) (x : Option α) (k : α → Res β) : Res β := Option.rec (.bad c) k x
def grd (c : Nat) (b : Bool) (k : Res β) : Res β := Bool.rec (.bad c) k b
def natK (n : Nat) (k : Nat → Res β) : Res β := Nat.rec (k 0) (fun m _ => k (Nat.succ m)) n
def intK (n : Int) (k : Int → Res β) : Res β := Int.rec (fun m => natK m fun m => k (.ofNat m)) (fun m => natK m fun m => k (.negSucc m)) n
def boolK (b : Bool) (k : Bool → Res β) : Res β := Bool.rec (k false) (k true) b
end

/-! ## values, blocks -/

inductive Cap where
  | known (n : Nat)
  | opn (esz : Nat)

inductive CV where
  | bool (b : Bool)
  | int (k : IntKind) (n : Int)
  | ptr (b o : Nat)
  | nilptr
  | slice (b o len : Nat) (cap : Cap)
  | nilslice
  | mapv (b : Nat)
  | nilmap
  | fn (f : FuncId) (first captured : List CV)
  | nilfn
  | yield (l : Nat)
  | iter (b : Nat)
  | iface (t : TypeId) (v : CV)
  | niliface
  | agg (cs : List CV)
  | tup (cs : List CV)
  | str (s : ByteArray)

inductive Blk where
  | cells (n : Nat) (cs : T CV) (rw : Bool)
  | map (es : List (CV × CV))
  | iter (m : Option Nat)
  | loop (tmps : T CV) (nt : Nat) (params : List Tmp) (assign body : Code) (st : LoopState) (pending : Option Code)
  | mark

inductive Ex where
  | normal
  | exit (id : Nat)
  | ret

/-- a deferred call: a function and its arguments, or the mark of a range over a function -/
inductive Df where
  | call (f : FuncId) (args : List CV)
  | mark (b : Nat)

inductive Prim where
  | nop0
  | nop1
  | load (k : IntKind)
  | store
  | add (k : IntKind)
  | cas (k : IntKind)
  | const (gs : List (Nat × List CV)) (v : CV)
  | spec (g : List CV → T Blk → Nat → Option (CV × T Blk × Nat))

/-- what is known of a type -/
structure TI where
  u : TypeDesc
  size : Nat
  bytes : Nat
  agg : Bool
  zero : CV
  eqok : Bool

structure Tab where
  ng : Nat
  types : T TI
  funcs : T Func
  prims : T Prim

variable {β : Type}

abbrev K (β : Type) := CV → T Blk → Nat → Res β
abbrev CallT (β : Type) := CV → List CV → T Blk → Nat → K β → Res β
abbrev OpT (β : Type) := Tab → CallT β → T CV → T Blk → Nat → K β → Res β

/-! ## values out of the program's text -/

mutual
def ofValue : Value → Option CV
  | .bool b => some (.bool b)
  | .int k n => some (.int k n)
  | .pointer none => some .nilptr
  | .slice none 0 0 => some .nilslice
  | .map none => some .nilmap
  | .nilFunc => some .nilfn
  | .nilIface => some .niliface
  | .string s => some (.str s)
  | .agg ⟨cs⟩ => (ofValues cs).map .agg
  | .tuple ⟨[]⟩ => some (.tup [])
  | _ => none
def ofValues : List Value → Option (List CV)
  | [] => some []
  | v :: vs => match ofValue v with
    | some c => match ofValues vs with
      | some cs => some (c :: cs)
      | none => none
    | none => none
end

def evO (o : Operand) (tab : Tab) (t : T CV) (k : CV → Res β) : Res β :=
  Operand.rec (motive := fun _ => Tab → T CV → (CV → Res β) → Res β)
    (fun n _ t k => optK 1 (t.get n) k) (fun v _ _ k => optK 2 (ofValue v) k) (fun g tab _ k => grd 2 (Nat.blt g tab.ng) (k (.ptr g 0))) (fun f _ _ k => k (.fn f [] [])) o tab t k

def evOs (l : List Operand) (tab : Tab) : T CV → (List CV → Res β) → Res β :=
  List.rec (motive := fun _ => T CV → (List CV → Res β) → Res β) (fun _ k => k [])
    (fun o _ ih t k => evO o tab t fun v => ih t fun vs => k (v :: vs)) l

def CV.cells (v : CV) : List CV :=
  match v with
  | .agg cs => cs
  | v => [v]

/-- may the value lie in one cell? -/
def CV.one (v : CV) : Bool :=
  match v with
  | .agg _ => false
  | .tup _ => false
  | _ => true

def lenN (l : List CV) : Nat := List.rec 0 (fun _ _ ih => Nat.succ ih) l

def readCells (cs : T CV) (n : Nat) : Nat → (List CV → Res β) → Res β :=
  Nat.rec (motive := fun _ => Nat → (List CV → Res β) → Res β) (fun _ k => k [])
    (fun _ ih o k => optK 3 (cs.get o) fun v => ih (Nat.succ o) fun vs => k (v :: vs)) n

def writeCells (l : List CV) : T CV → Nat → (T CV → Res β) → Res β :=
  List.rec (motive := fun _ => T CV → Nat → (T CV → Res β) → Res β) (fun cs _ k => k cs)
    (fun v _ ih cs o k => grd 4 v.one <| cs.setK o v fun cs => ih cs (Nat.succ o) k) l

def lenK (l : List CV) : Nat → (Nat → Res β) → Res β :=
  List.rec (motive := fun _ => Nat → (Nat → Res β) → Res β) (fun n k => k n) (fun _ _ ih n k => ih (Nat.succ n) k) l

def newBlk (b : Blk) (h : T Blk) (nx : Nat) (k : Nat → T Blk → Nat → Res β) : Res β :=
  h.setK nx b fun h => natK (Nat.succ nx) fun nx' => k nx h nx'

def newCells (l : List CV) (h : T Blk) (nx : Nat) (k : Nat → T Blk → Nat → Res β) : Res β :=
  writeCells l .nil 0 fun cs => lenK l 0 fun n => newBlk (.cells n cs true) h nx k

def tyK (tab : Tab) (t : TypeId) (k : TI → Res β) : Res β := optK 5 (tab.types.get t) k

/-- a block of cells -/
def blkK (h : T Blk) (b : Nat) (k : Nat → T CV → Bool → Res β) : Res β :=
  optK 6 (h.get b) fun B => Blk.rec (fun n cs rw => k n cs rw) (fun _ => .bad 7) (fun _ => .bad 7) (fun _ _ _ _ _ _ _ => .bad 7) (.bad 7) B

def mapK (h : T Blk) (b : Nat) (k : List (CV × CV) → Res β) : Res β :=
  optK 8 (h.get b) fun B => match B with
    | .map es => k es
    | _ => .bad 9

def getVar (ti : TI) (h : T Blk) (b o : Nat) (k : CV → Res β) : Res β :=
  blkK h b fun _ cs _ => Bool.rec (optK 10 (cs.get o) k) (readCells cs ti.size o fun vs => k (.agg vs)) ti.agg

/-- a store of cells into a block that may be written -/
def putCells (l : List CV) (h : T Blk) (b o : Nat) (k : T Blk → Res β) : Res β :=
  blkK h b fun n cs rw => grd 11 rw <| lenK l o fun e => grd 12 (Nat.ble e n) <| writeCells l cs o fun cs => h.setK b (.cells n cs true) k

/-! ## numbers -/

def bnd (k : IntKind) : Nat := IntKind.rec 128 32768 2147483648 9223372036854775808 256 65536 4294967296 18446744073709551616 k
def full (k : IntKind) : Nat := IntKind.rec 256 65536 4294967296 18446744073709551616 256 65536 4294967296 18446744073709551616 k

/-- a number from 0 on, brought into the kind -/
def wrapN (k : IntKind) (m : Nat) (c : Int → Res β) : Res β := Bool.rec (intK (k.wrap (.ofNat m)) c) (natK m fun m => c (.ofNat m)) (Nat.blt m (bnd k))

def kEq (a b : IntKind) : Bool :=
  IntKind.rec (IntKind.rec true false false false false false false false b) (IntKind.rec false true false false false false false false b)
    (IntKind.rec false false true false false false false false b) (IntKind.rec false false false true false false false false b)
    (IntKind.rec false false false false true false false false b) (IntKind.rec false false false false false true false false b)
    (IntKind.rec false false false false false false true false b) (IntKind.rec false false false false false false false true b) a

/-- two numbers from 0 on, or any -/
def nat2 (a b : Int) (kn : Nat → Nat → Res β) (ki : Res β) : Res β :=
  Int.rec (fun a => Int.rec (fun b => kn a b) (fun _ => ki) b) (fun _ => ki) a

abbrev BinT (β : Type) := IntKind → Int → Int → (CV → Res β) → Res β

def bAdd : BinT β := fun k a b c => nat2 a b (fun a b => wrapN k (Nat.add a b) fun n => c (.int k n)) (intK (k.wrap (a + b)) fun n => c (.int k n))
def bSub : BinT β := fun k a b c => nat2 a b (fun m n => Bool.rec (intK (k.wrap (a - b)) fun n => c (.int k n)) (wrapN k (Nat.sub m n) fun n => c (.int k n)) (Nat.ble n m)) (intK (k.wrap (a - b)) fun n => c (.int k n))
def bMul : BinT β := fun k a b c => nat2 a b (fun a b => wrapN k (Nat.mul a b) fun n => c (.int k n)) (intK (k.wrap (a * b)) fun n => c (.int k n))
def bQuo : BinT β := fun k a b c => nat2 a b (fun a b => Nat.rec (.bad 20) (fun b' _ => wrapN k (Nat.div a (Nat.succ b')) fun n => c (.int k n)) b) (.bad 21)
def bRem : BinT β := fun k a b c => nat2 a b (fun a b => Nat.rec (.bad 20) (fun b' _ => natK (Nat.mod a (Nat.succ b')) fun n => c (.int k (.ofNat n))) b) (.bad 21)
/-- two numbers within the kind's words -/
def bits2 (k : IntKind) (a b : Int) (kn : Nat → Nat → Res β) (ki : Res β) : Res β :=
  nat2 a b (fun a b => Bool.rec ki (Bool.rec ki (kn a b) (Nat.blt b (full k))) (Nat.blt a (full k))) ki
def bAnd : BinT β := fun k a b c => bits2 k a b (fun a b => wrapN k (Nat.land a b) fun n => c (.int k n)) (intK (k.wrap ((BitVec.ofInt k.bits a &&& BitVec.ofInt k.bits b).toNat)) fun n => c (.int k n))
def bOr : BinT β := fun k a b c => bits2 k a b (fun a b => wrapN k (Nat.lor a b) fun n => c (.int k n)) (intK (k.wrap ((BitVec.ofInt k.bits a ||| BitVec.ofInt k.bits b).toNat)) fun n => c (.int k n))
def bXor : BinT β := fun k a b c => bits2 k a b (fun a b => wrapN k (Nat.xor a b) fun n => c (.int k n)) (intK (k.wrap ((BitVec.ofInt k.bits a ^^^ BitVec.ofInt k.bits b).toNat)) fun n => c (.int k n))
def bAndNot : BinT β := fun k a b c => bits2 k a b (fun a b => wrapN k (Nat.land a (Nat.sub (Nat.sub (full k) 1) b)) fun n => c (.int k n)) (intK (k.wrap ((BitVec.ofInt k.bits a &&& ~~~(BitVec.ofInt k.bits b)).toNat)) fun n => c (.int k n))
def bEq : BinT β := fun _ a b c => nat2 a b (fun a b => boolK (Nat.beq a b) fun b => c (.bool b)) (boolK (a == b) fun b => c (.bool b))
def bNe : BinT β := fun _ a b c => nat2 a b (fun a b => boolK (Nat.beq a b) fun b => c (.bool (!b))) (boolK (a != b) fun b => c (.bool b))
def bLt : BinT β := fun _ a b c => nat2 a b (fun a b => boolK (Nat.blt a b) fun b => c (.bool b)) (boolK (decide (a < b)) fun b => c (.bool b))
def bLe : BinT β := fun _ a b c => nat2 a b (fun a b => boolK (Nat.ble a b) fun b => c (.bool b)) (boolK (decide (a ≤ b)) fun b => c (.bool b))
def bGt : BinT β := fun _ a b c => nat2 a b (fun a b => boolK (Nat.blt b a) fun b => c (.bool b)) (boolK (decide (a > b)) fun b => c (.bool b))
def bGe : BinT β := fun _ a b c => nat2 a b (fun a b => boolK (Nat.ble b a) fun b => c (.bool b)) (boolK (decide (a ≥ b)) fun b => c (.bool b))
def bShl : BinT β := fun k a b c => nat2 a b (fun a b => wrapN k (Nat.shiftLeft a (Bool.rec k.bits b (Nat.ble b k.bits))) fun n => c (.int k n)) (.bad 22)
def bShr : BinT β := fun k a b c => nat2 a b (fun a b => natK (Nat.shiftRight a (Bool.rec k.bits b (Nat.ble b k.bits))) fun n => c (.int k (.ofNat n))) (.bad 22)

/-! ## equality -/

def eqN (a b : Int) : Bool := Int.rec (fun a => Int.rec (fun b => Nat.beq a b) (fun _ => false) b) (fun a => Int.rec (fun _ => false) (fun b => Nat.beq a b) b) a
def eqB (a b : Bool) : Bool := Bool.rec (Bool.rec true false b) b a

/-- what a cell of a type that is compared holds: a number, a truth value -/
inductive LK where
  | i | b

def lk (tab : Tab) (t : TypeId) : Option LK :=
  match tab.types.get t with
  | some ti => match ti.u with
    | .int _ => some .i
    | .bool => some .b
    | _ => none
  | none => none

def lks (tab : Tab) : List Field → Nat → Option (List LK)
  | [], _ => some []
  | f :: fs, n => match decide (f.name ≠ "_") && Nat.beq f.offset n, lk tab f.type, lks tab fs (n + 1) with
    | true, some q, some l => some (q :: l)
    | _, _, _ => none

/-- the cells of a struct or an array of such, in order -/
def kindsOf (tab : Tab) (ti : TI) : Option (List LK) :=
  match ti.eqok, ti.u with
  | true, .struct fs => lks tab fs.toList 0
  | true, .array len e => match tab.types.get e with
    | some te => match Nat.beq te.size 1, lk tab e with
      | true, some q => some (List.replicate len q)
      | _, _ => none
    | none => none
  | _, _ => none

def eq1 (q : LK) (a b : CV) : Option Bool :=
  match q, a, b with
  | .i, .int k a, .int k' b => match kEq k k' with
    | true => some (eqN a b)
    | false => none
  | .b, .bool a, .bool b => some (eqB a b)
  | _, _, _ => none

def eqCells : List LK → List CV → List CV → Option Bool
  | [], [], [] => some true
  | q :: qs, a :: as, b :: bs => match eq1 q a b with
    | some true => eqCells qs as bs
    | some false => some false
    | none => none
  | _, _, _ => none

def eqCV (tab : Tab) (ty : TypeId) (a b : CV) (c : Bool → Res β) : Res β :=
  tyK tab ty fun ti => match ti.u, a, b with
  | .bool, .bool a, .bool b => boolK (eqB a b) c
  | .pointer _, .nilptr, .nilptr => c true
  | .pointer _, .nilptr, .ptr _ _ => c false
  | .pointer _, .ptr _ _, .nilptr => c false
  | .slice _, .nilslice, .nilslice => c true
  | .slice _, .nilslice, .slice _ _ _ _ => c false
  | .slice _, .slice _ _ _ _, .nilslice => c false
  | .map _ _, .nilmap, .nilmap => c true
  | .map _ _, .nilmap, .mapv _ => c false
  | .map _ _, .mapv _, .nilmap => c false
  | .func _ _ _, .nilfn, .nilfn => c true
  | .func _ _ _, .nilfn, .fn _ _ _ => c false
  | .func _ _ _, .fn _ _ _, .nilfn => c false
  | _, .agg a, .agg b => optK 23 (kindsOf tab ti) fun qs => optK 23 (eqCells qs a b) fun b => boolK b c
  | _, _, _ => .bad 24

/-- a value all of whose numbers are written out -/
def keyEq (a b : CV) : Option Bool :=
  match a, b with
  | .int k a, .int k' b => match kEq k k' with
    | true => some (eqN a b)
    | false => none
  | _, _ => none

/-! ## the operations -/

def opMove (x : Operand) : OpT β := fun tab _ t h nx k => evO x tab t fun v => k v h nx
def opPick (c a b : Operand) : OpT β := fun tab _ t h nx k => evO c tab t fun c => match c with
  | .bool c => Bool.rec (evO b tab t fun v => k v h nx) (evO a tab t fun v => k v h nx) c
  | _ => .bad 30
def opAlloc (e : TypeId) : OpT β := fun tab _ _ h nx k => tyK tab e fun ti => newCells ti.zero.cells h nx fun b h nx => k (.ptr b 0) h nx
def opBox (_ : TypeId) (x : Operand) : OpT β := fun tab _ t h nx k => evO x tab t fun v => newCells v.cells h nx fun b h nx => k (.ptr b 0) h nx

/-- the cells of one part laid at a place -/
def fillL (vs : List CV) : Nat → List CV → (List CV → Res β) → Res β :=
  Nat.rec (motive := fun _ => List CV → (List CV → Res β) → Res β)
    (fun cs k => List.rec (motive := fun _ => List CV → (List CV → Res β) → Res β) (fun cs k => k cs)
      (fun v _ ih cs k => List.rec (.bad 31) (fun _ cs _ => ih cs fun cs => k (v :: cs)) cs) vs cs k)
    (fun _ ih cs k => List.rec (.bad 31) (fun c cs _ => ih cs fun cs => k (c :: cs)) cs)

def fillParts (place : Nat → (Nat → Nat → Res β) → Res β) (tab : Tab) (t : T CV) (ps : List (Nat × Operand)) : List CV → (List CV → Res β) → Res β :=
  List.rec (motive := fun _ => List CV → (List CV → Res β) → Res β) (fun cs k => k cs)
    (fun p _ ih cs k => Prod.rec (fun i o => evO o tab t fun v => place i fun off size => grd 32 (Nat.beq (lenN v.cells) size) <| fillL v.cells off cs fun cs => ih cs k) p) ps

def fieldAt (tab : Tab) (fs : List Field) (i : Nat) (k : Nat → Nat → Res β) : Res β :=
  optK 33 fs[i]? fun f => tyK tab f.type fun ti => k f.offset ti.size

def opBuild (ty : TypeId) (ps : Array (Nat × Operand)) : OpT β := fun tab _ t h nx k => tyK tab ty fun ti => match ti.u with
  | .struct fs => grd 34 (fs.toList.all fun f => (tab.types.get f.type).isSome) <| fillParts (fieldAt tab fs.toList) tab t ps.toList ti.zero.cells fun cs => k (.agg cs) h nx
  | .array _ e => tyK tab e fun te => fillParts (fun i c => natK (Nat.mul i te.size) fun o => c o te.size) tab t ps.toList ti.zero.cells fun cs => k (.agg cs) h nx
  | _ => .bad 34

def repL (z : List CV) (n : Nat) : List CV := Nat.rec [] (fun _ ih => z ++ ih) n

def opBuildSlice (ty : TypeId) (len : Nat) (ps : Array (Nat × Operand)) : OpT β := fun tab _ t h nx k => tyK tab ty fun ti => match ti.u with
  | .slice e => tyK tab e fun te => grd 35 (Nat.ble (Nat.mul len te.size) 16777216) <|
    fillParts (fun i c => natK (Nat.mul i te.size) fun o => c o te.size) tab t ps.toList (repL te.zero.cells len) fun cs => newCells cs h nx fun b h nx => k (.slice b 0 len (.known len)) h nx
  | _ => .bad 36

def opLoad (ty : TypeId) (a : Operand) : OpT β := fun tab _ t h nx k => evO a tab t fun a => match a with
  | .ptr b o => tyK tab ty fun ti => getVar ti h b o fun v => k v h nx
  | _ => .bad 37

def opStore (ty : TypeId) (a x : Operand) : OpT β := fun tab _ t h nx k => evO a tab t fun a => match a with
  | .ptr b o => evO x tab t fun v => tyK tab ty fun ti => grd 38 (Nat.beq (lenN v.cells) ti.size) <| putCells v.cells h b o fun h => k (.tup []) h nx
  | _ => .bad 39

def opNilCheck (x : Operand) : OpT β := fun tab _ t h nx k => evO x tab t fun v => match v with
  | .ptr b o => k (.ptr b o) h nx
  | .fn f a b => k (.fn f a b) h nx
  | _ => .bad 40

def binT (op : BinOp) : BinT β :=
  match op with
  | .add => bAdd | .sub => bSub | .mul => bMul | .quo => bQuo | .rem => bRem
  | .and => bAnd | .or => bOr | .xor => bXor | .andNot => bAndNot | .shl => bShl | .shr => bShr
  | .eql => bEq | .neq => bNe | .lss => bLt | .leq => bLe | .gtr => bGt | .geq => bGe

def isShift (op : BinOp) : Bool :=
  match op with
  | .shl => true
  | .shr => true
  | _ => false

def binCV (tab : Tab) (op : BinOp) (ty : TypeId) (a b : CV) (c : CV → Res β) : Res β :=
  match a, b with
  | .int k x, .int k' y => grd 41 (isShift op || kEq k k') <| binT op k x y c
  | a, b => match op with
    | .eql => eqCV tab ty a b fun x => c (.bool x)
    | .neq => eqCV tab ty a b fun x => c (.bool (!x))
    | _ => .bad 42

def opBin (op : BinOp) (ty : TypeId) (x y : Operand) (_ : TypeId) : OpT β := fun tab _ t h nx k => evO x tab t fun a => evO y tab t fun b => binCV tab op ty a b fun v => k v h nx

def opUn (op : UnOp) (_ : TypeId) (x : Operand) : OpT β := fun tab _ t h nx k => evO x tab t fun a => match op, a with
  | .neg, .int kd n => bSub kd 0 n fun v => k v h nx
  | .xor, .int kd n => bXor kd (if kd.signed then -1 else kd.max) n fun v => k v h nx
  | .not, .bool b => boolK b fun b => k (.bool (!b)) h nx
  | _, _ => .bad 43

def opConvert (src dst : TypeId) (x : Operand) : OpT β := fun tab _ t h nx k => evO x tab t fun a => tyK tab src fun ts => tyK tab dst fun ti => match ts.u, ti.u, a with
  | .int _, .int kd, .int _ n => Int.rec (fun m => wrapN kd m fun n => k (.int kd n) h nx) (fun _ => intK (kd.wrap n) fun n => k (.int kd n) h nx) n
  | .pointer el, .unsafePointer, .ptr b o => tyK tab el fun te => grd 44 (Nat.blt 0 te.size) <| blkK h b fun n _ _ => grd 44 (Nat.blt o n) <| k (.ptr b o) h nx
  | _, _, _ => .bad 44

def opMakeFunc (f : Fn) (first captured : Array Operand) : OpT β := fun tab _ t h nx k => match f with
  | .func f => evOs first.toList tab t fun a => evOs captured.toList tab t fun c => k (.fn f a c) h nx
  | _ => .bad 45

def opMakeMap (_ : TypeId) (r : Option Operand) : OpT β := fun _ _ _ h nx k => match r with
  | none => newBlk (.map []) h nx fun b h nx => k (.mapv b) h nx
  | some _ => .bad 46

def natOf (v : CV) (k : Nat → Res β) : Res β :=
  match v with
  | .int _ n => Int.rec (fun n => k n) (fun _ => .bad 47) n
  | _ => .bad 48

def opMakeSlice (ty : TypeId) (l c : Operand) : OpT β := fun tab _ t h nx k => tyK tab ty fun ti => match ti.u with
  | .slice e => tyK tab e fun te => evO l tab t fun l => natOf l fun l => evO c tab t fun c => natOf c fun c =>
    grd 49 (Nat.ble l c) <| grd 49 (Nat.ble c 65536) <| grd 49 (Nat.ble te.bytes 65536) <| newCells (repL te.zero.cells c) h nx fun b h nx => k (.slice b 0 l (.known c)) h nx
  | _ => .bad 50

def optNat (tab : Tab) (t : T CV) (x : Option Operand) (k : Option Nat → Res β) : Res β :=
  match x with
  | none => k none
  | some x => evO x tab t fun v => natOf v fun n => k (some n)

def leCap (n len : Nat) (cap : Cap) : Bool :=
  match cap with
  | .known c => Nat.ble n c
  | .opn _ => Nat.ble n len

/-- a slice of a slice -/
def sliceOp (esz b o len : Nat) (cap : Cap) (lo hi mx : Option Nat) (k : CV → Res β) : Res β :=
  match mx with
  | none =>
    grd 51 (Nat.ble (lo.getD 0) (hi.getD len)) <| grd 52 (leCap (hi.getD len) len cap) <|
    match cap with
    | .known c => natK (Bool.rec (Nat.add o (Nat.mul (lo.getD 0) esz)) o (Nat.beq c (lo.getD 0))) fun o => natK (Nat.sub (hi.getD len) (lo.getD 0)) fun n => natK (Nat.sub c (lo.getD 0)) fun c => k (.slice b o n (.known c))
    | .opn e => grd 53 (Nat.beq e esz) <| grd 54 (Nat.blt (lo.getD 0) len || Nat.beq (lo.getD 0) 0) <|
      natK (Nat.add o (Nat.mul (lo.getD 0) esz)) fun o => natK (Nat.sub (hi.getD len) (lo.getD 0)) fun n => k (.slice b o n (.opn e))
  | some m => match hi with
    | none => .bad 55
    | some h =>
      grd 56 (leCap m len cap) <| grd 57 (Nat.ble h m) <| grd 58 (Nat.ble (lo.getD 0) h) <|
      natK (Bool.rec (Nat.add o (Nat.mul (lo.getD 0) esz)) o (Nat.beq m (lo.getD 0))) fun o => natK (Nat.sub h (lo.getD 0)) fun n => natK (Nat.sub m (lo.getD 0)) fun c => k (.slice b o n (.known c))

def opSlice (ty : TypeId) (x : Operand) (lo hi mx : Option Operand) : OpT β := fun tab _ t h nx k => tyK tab ty fun ti => evO x tab t fun v => optNat tab t lo fun lo => optNat tab t hi fun hi => optNat tab t mx fun mx =>
  match ti.u, v with
  | .slice e, .slice b o len cap => tyK tab e fun te => sliceOp te.size b o len cap lo hi mx fun v => k v h nx
  | .slice e, .nilslice => tyK tab e fun _ => grd 59 (Nat.beq (lo.getD 0) 0) <| grd 59 (Nat.beq (hi.getD 0) 0) <| grd 59 (Nat.beq (mx.getD 0) 0) <| grd 59 (mx.isNone || hi.isSome) <| k .nilslice h nx
  | .array len e, .ptr b o => tyK tab e fun te => sliceOp te.size b o len (.known len) lo hi mx fun v => k v h nx
  | _, _ => .bad 60

def opFieldAddr (ty : TypeId) (x : Operand) (f : Nat) : OpT β := fun tab _ t h nx k => tyK tab ty fun ti => match ti.u with
  | .struct fs => fieldAt tab fs.toList f fun off sz => grd 61 (Nat.blt 0 sz) <| evO x tab t fun a => match a with
    | .ptr b o => natK (Nat.add o off) fun o => k (.ptr b o) h nx
    | _ => .bad 62
  | _ => .bad 63

/-- a part of a row of cells -/
def takeL (n : Nat) : List CV → (List CV → Res β) → Res β :=
  Nat.rec (motive := fun _ => List CV → (List CV → Res β) → Res β) (fun _ k => k [])
    (fun _ ih cs k => List.rec (.bad 64) (fun c cs _ => ih cs fun l => k (c :: l)) cs) n
def dropL (n : Nat) : List CV → (List CV → Res β) → Res β :=
  Nat.rec (motive := fun _ => List CV → (List CV → Res β) → Res β) (fun cs k => k cs)
    (fun _ ih cs k => List.rec (.bad 65) (fun _ cs _ => ih cs k) cs) n

def partK (ti : TI) (cs : List CV) (off : Nat) (k : CV → Res β) : Res β :=
  dropL off cs fun cs => Bool.rec (List.rec (.bad 66) (fun c _ _ => k c) cs) (takeL ti.size cs fun l => k (.agg l)) ti.agg

def opField (ty : TypeId) (x : Operand) (f : Nat) : OpT β := fun tab _ t h nx k => tyK tab ty fun ti => match ti.u with
  | .struct fs => optK 67 fs.toList[f]? fun fd => tyK tab fd.type fun te => evO x tab t fun a => match a with
    | .agg cs => partK te cs fd.offset fun v => k v h nx
    | _ => .bad 68
  | _ => .bad 69

def opIndexAddr (ty : TypeId) (x i : Operand) : OpT β := fun tab _ t h nx k => tyK tab ty fun ti => evO x tab t fun a => evO i tab t fun i => natOf i fun i => match ti.u, a with
  | .array len e, .ptr b o => grd 70 (Nat.blt i len) <| tyK tab e fun te => natK (Nat.add o (Nat.mul i te.size)) fun o => k (.ptr b o) h nx
  | .slice e, .slice b o len _ => grd 71 (Nat.blt i len) <| tyK tab e fun te => natK (Nat.add o (Nat.mul i te.size)) fun o => k (.ptr b o) h nx
  | _, _ => .bad 72

def opIndex (ty : TypeId) (x i : Operand) : OpT β := fun tab _ t h nx k => tyK tab ty fun ti => evO x tab t fun a => evO i tab t fun i => natOf i fun i => match ti.u, a with
  | .array len e, .agg cs => grd 73 (Nat.blt i len) <| tyK tab e fun te => partK te cs (Nat.mul i te.size) fun v => k v h nx
  | _, _ => .bad 74

/-- the value at a key -/
def findMap (key : CV) : List (CV × CV) → Option (Option CV)
  | [] => some none
  | (a, v) :: es => match keyEq key a with
    | none => none
    | some true => some (some v)
    | some false => findMap key es
def setMap (key v : CV) : List (CV × CV) → (List (CV × CV) → Res β) → Res β
  | [], k => k [(key, v)]
  | (a, x) :: es, k => match keyEq key a with
    | some true => k ((key, v) :: es)
    | some false => setMap key v es fun es => k ((a, x) :: es)
    | none => .bad 75
def delMap (key : CV) : List (CV × CV) → (List (CV × CV) → Res β) → Res β
  | [], k => k []
  | (a, x) :: es, k => match keyEq key a with
    | some true => k es
    | some false => delMap key es fun es => k ((a, x) :: es)
    | none => .bad 76

def isIntT (d : TypeDesc) : Bool :=
  match d with
  | .int _ => true
  | _ => false

def isIntV (v : CV) : Bool :=
  match v with
  | .int _ _ => true
  | _ => false

def lookFin (ok : Bool) (z : CV) (r : Option CV) (k : CV → Res β) : Res β :=
  match r, ok with
  | some v, true => k (.tup [v, .bool true])
  | some v, false => k v
  | none, true => k (.tup [z, .bool false])
  | none, false => k z

def opLookup (ty : TypeId) (m i : Operand) (ok : Bool) : OpT β := fun tab _ t h nx k => tyK tab ty fun ti => match ti.u with
  | .map kt e => tyK tab kt fun tk => grd 77 (isIntT tk.u) <| evO m tab t fun m => evO i tab t fun i => grd 77 (isIntV i) <| tyK tab e fun te =>
    match m with
    | .nilmap => lookFin ok te.zero none fun v => k v h nx
    | .mapv b => mapK h b fun es => optK 77 (findMap i es) fun r => lookFin ok te.zero r fun v => k v h nx
    | _ => .bad 78
  | _ => .bad 79

def opMapUpdate (ty : TypeId) (m i x : Operand) : OpT β := fun tab _ t h nx k => tyK tab ty fun ti => match ti.u with
  | .map kt _ => tyK tab kt fun tk => grd 77 (isIntT tk.u) <| evO m tab t fun m => evO i tab t fun i => grd 77 (isIntV i) <| evO x tab t fun x => match m with
    | .mapv b => mapK h b fun es => setMap i x es fun es => h.setK b (.map es) fun h => k (.tup []) h nx
    | _ => .bad 80
  | _ => .bad 80

def isMapT (d : TypeDesc) : Bool :=
  match d with
  | .map _ _ => true
  | _ => false

def opRange (ty : TypeId) (x : Operand) : OpT β := fun tab _ t h nx k => tyK tab ty fun ti => grd 81 (isMapT ti.u) <| evO x tab t fun x => match x with
  | .nilmap => newBlk (.iter none) h nx fun b h nx => k (.iter b) h nx
  | .mapv m => mapK h m fun es => match es with
    | [] => newBlk (.iter (some m)) h nx fun b h nx => k (.iter b) h nx
    | _ => .bad 81
  | _ => .bad 82

def opNext (it : Operand) (s : Bool) : OpT β := fun tab _ t h nx k => match s with
  | true => .bad 83
  | false => evO it tab t fun it => match it with
    | .iter b => optK 84 (h.get b) fun B => match B with
      | .iter none => k (.tup [.bool false]) h nx
      | .iter (some m) => mapK h m fun es => match es with
        | [] => k (.tup [.bool false]) h nx
        | _ => .bad 85
      | _ => .bad 86
    | _ => .bad 87

def opExtract (x : Operand) (i : Nat) : OpT β := fun tab _ t h nx k => evO x tab t fun v => match v with
  | .tup vs => optK 88 vs[i]? fun v => k v h nx
  | _ => .bad 89

/-- what is appended -/
def newsK (h : T Blk) (esz : Nat) (x : CV) (k : List CV → Nat → Res β) : Res β :=
  match x with
  | .nilslice => k [] 0
  | .slice b o len _ => blkK h b fun _ cs _ => readCells cs (Nat.mul len esz) o fun l => k l len
  | _ => .bad 90

def appendOp (esz bytes : Nat) (s x : CV) (h : T Blk) (nx : Nat) (k : K β) : Res β :=
  newsK h esz x fun new n => natK n fun n => grd 90 (Nat.blt 0 esz) <| match s with
  | .nilslice => grd 90 (Nat.ble n 65536 && Nat.ble bytes 65536) <| Nat.rec (k .nilslice h nx) (fun _ _ => newCells new h nx fun b h nx => k (.slice b 0 n (.opn esz)) h nx) n
  | .slice b o len cap => natK (Nat.add len n) fun need => grd 90 (Nat.ble need 65536 && Nat.ble bytes 65536) <| blkK h b fun m cs rw =>
    Bool.rec
      -- a new row for sure (known), or perhaps (open)
      (readCells cs (Nat.mul len esz) o fun old => match cap with
        | .known _ => newCells (old ++ new) h nx fun b h nx => k (.slice b 0 need (.opn esz)) h nx
        | .opn e => grd 91 rw <| grd 92 (Nat.beq e esz) <| h.delK b fun h => newCells (old ++ new) h nx fun b h nx => k (.slice b 0 need (.opn esz)) h nx)
      -- it fits for sure
      (Nat.rec (k (.slice b o len cap) h nx) (fun _ _ => putCells new h b (Nat.add o (Nat.mul len esz)) fun h => k (.slice b o need cap) h nx) n)
      (match cap with | .known c => Nat.ble need c | .opn e => Nat.beq e esz && Nat.ble (Nat.add o (Nat.mul need esz)) m)
  | _ => .bad 93

/-- so many noughts appended to a row that has no room for them -/
def appendZ (ty ty2 : TypeId) (s x : CV) (tab : Tab) (h : T Blk) (nx : Nat) (k : K β) : Res β :=
  tyK tab ty fun ti => tyK tab ty2 fun t2 => grd 97 (isIntT t2.u) <| match ti.u, s, x with
  | .slice e, .slice b o len (.known c), .int _ (.ofNat n) => tyK tab e fun te => grd 98 (Nat.blt 0 n) <| grd 98 (Nat.blt 0 te.size) <| natK (Nat.add len n) fun need =>
    grd 98 (Nat.blt c need) <| grd 98 (Nat.ble need 65536 && Nat.ble te.bytes 65536) <| blkK h b fun _ cs _ => readCells cs (Nat.mul len te.size) o fun old =>
      newCells (old ++ repL te.zero.cells n) h nx fun b h nx => k (.slice b 0 need (.opn te.size)) h nx
  | _, _, _ => .bad 98

def opLen (ty : TypeId) (args : List CV) (tab : Tab) (h : T Blk) (nx : Nat) (k : K β) : Res β :=
  tyK tab ty fun ti => match args with
  | [x] => match ti.u, x with
    | .slice _, .slice _ _ len _ => k (.int .i64 (.ofNat len)) h nx
    | .slice _, .nilslice => k (.int .i64 (.ofNat 0)) h nx
    | .map _ _, .mapv b => mapK h b fun es => natK es.length fun n => k (.int .i64 (.ofNat n)) h nx
    | .map _ _, .nilmap => k (.int .i64 (.ofNat 0)) h nx
    | _, _ => .bad 94
  | _ => .bad 95

def opMax (args : List CV) (k : CV → Res β) : Res β :=
  match args with
  | [.int kd x, .int _ y] => intK (if y > x then y else x) fun n => k (.int kd n)
  | _ => .bad 98
def opMin (args : List CV) (k : CV → Res β) : Res β :=
  match args with
  | [.int kd x, .int _ y] => intK (if y < x then y else x) fun n => k (.int kd n)
  | _ => .bad 99

def opBuiltin (b : Builtin) (argTypes : List TypeId) (args : List CV) (tab : Tab) (h : T Blk) (nx : Nat) (k : K β) : Res β :=
  match b with
  | .len => match argTypes with
    | ty :: _ => opLen ty args tab h nx k
    | _ => .bad 94
  | .append => match argTypes, args with
    | [ty, ty2], [s, x] => Bool.rec (appendZ ty ty2 s x tab h nx k) (tyK tab ty fun ti => match ti.u with
      | .slice e => tyK tab e fun te => appendOp te.size te.bytes s x h nx k
      | _ => .bad 96) (Nat.beq ty ty2)
    | _, _ => .bad 97
  | .max => opMax args fun v => k v h nx
  | .min => opMin args fun v => k v h nx
  | .delete => match argTypes, args with
    | ty :: _, [.mapv b, key] => tyK tab ty fun ti => match ti.u with
      | .map kt _ => tyK tab kt fun tk => grd 77 (isIntT tk.u) <| grd 77 (isIntV key) <| mapK h b fun es => delMap key es fun es => h.setK b (.map es) fun h => k (.tup []) h nx
      | _ => .bad 100
    | _, _ => .bad 100
  | .clear => match argTypes, args with
    | [ty], [.nilslice] => tyK tab ty fun ti => match ti.u with
      | .slice _ => k (.tup []) h nx
      | _ => .bad 103
    | [ty], [.slice b o len _] => tyK tab ty fun ti => match ti.u with
      | .slice e => tyK tab e fun te => Nat.rec (k (.tup []) h nx) (fun _ _ => putCells (repL te.zero.cells len) h b o fun h => k (.tup []) h nx) len
      | _ => .bad 103
    | _, _ => .bad 103
  | .cap => match argTypes, args with
    | [ty], [.nilslice] => tyK tab ty fun ti => match ti.u with
      | .slice _ => k (.int .i64 (.ofNat 0)) h nx
      | _ => .bad 104
    | [ty], [.slice _ _ _ (.known c)] => tyK tab ty fun ti => match ti.u with
      | .slice _ => k (.int .i64 (.ofNat c)) h nx
      | _ => .bad 104
    | _, _ => .bad 104
  | .copy => match argTypes, args with
    | ty :: _, [.slice b o len _, .slice b2 o2 len2 _] => tyK tab ty fun ti => match ti.u with
      | .slice e => tyK tab e fun te => natK (Bool.rec len len2 (Nat.ble len2 len)) fun n => blkK h b2 fun _ cs _ => readCells cs (Nat.mul n te.size) o2 fun l => putCells l h b o fun h => k (.int .i64 (.ofNat n)) h nx
      | _ => .bad 105
    | _, _ => .bad 105
  | _ => .bad 101

def notMapV (v : CV) : Bool :=
  match v with
  | .mapv _ => false
  | _ => true

def opCall (c : Call) : OpT β := fun tab call t h nx k => evOs c.args.toList tab t fun args => match c.callee with
  | .value f => evO f tab t fun f => grd 102 (notMapV f) <| call f args h nx k
  | .builtin b => opBuiltin b c.argTypes.toList args tab h nx k
  | .invoke _ _ => .bad 102

def no (n : Nat) : OpT β := fun _ _ _ _ _ _ => .bad n

def evOp (o : Op) : OpT β :=
  Op.rec (motive := fun _ => OpT β) opMove opMove opPick opAlloc opBox opBuild opBuildSlice (fun _ _ _ _ => no 110) opLoad opStore (fun _ => no 111) (fun _ => no 112)
    opNilCheck opBin opUn opConvert (fun _ _ => no 113) (fun _ _ => no 114) opMakeFunc opMakeMap (fun _ _ => no 115) opMakeSlice opSlice opFieldAddr opField opIndexAddr opIndex opLookup opMapUpdate
    (fun _ _ _ => no 116) (fun _ _ _ _ => no 117) opRange opNext (fun _ => no 118) (fun _ _ _ _ => no 119) opExtract opCall (fun _ => no 120) (fun _ => no 121) (fun _ => no 122) (fun _ _ => no 123)
    (fun _ _ _ => no 124) (fun _ _ => no 125) o

/-! ## regions -/

/-- what stays the same in a frame -/
structure FI where
  nt : Nat
  round : Option Nat

def putT (fi : FI) (d : Option Tmp) (v : CV) (t : T CV) (k : T CV → Res β) : Res β :=
  Option.rec (k t) (fun d => grd 130 (Nat.blt d fi.nt) <| t.setK d v k) d

def guardTmp (ops : Array Oper) (j : Nat) : Option Tmp := (ops[j]?).bind (·.dst)

/-- is the operation to be done? -/
def wantK (ops : Array Oper) (o : Oper) (t : T CV) (k : Bool → Res β) : Res β :=
  Option.rec (k true) (fun g => Prod.rec (fun j want => optK 131 (guardTmp ops j) fun d => optK 132 (t.get d) fun v => match v with
    | .bool b => boolK (eqB b want) k
    | _ => k false) g) o.guard

def deferK (tab : Tab) (fi : FI) (c : Call) (t : T CV) (df : List Df) (k : List Df → Res β) : Res β :=
  match fi.round with
  | some _ => .bad 133
  | none => match c.callee with
    | .value f => evOs c.args.toList tab t fun args => evO f tab t fun f => match f with
      | .fn f a b => k (.call f (a ++ args ++ b) :: df)
      | _ => .bad 134
    | _ => .bad 135

abbrev KF (β : Type) := T CV → List Df → T Blk → Nat → Res β

def isDefer (o : Op) : Option Call :=
  match o with
  | .defer c => some c
  | _ => none

def runOps (ops : Array Oper) (tab : Tab) (call : CallT β) (fi : FI) (l : List Oper) : T CV → List Df → T Blk → Nat → KF β → Res β :=
  List.rec (motive := fun _ => T CV → List Df → T Blk → Nat → KF β → Res β) (fun t df h nx k => k t df h nx)
    (fun o _ ih t df h nx k => wantK ops o t fun w => Bool.rec
      (putT fi o.dst (.tup []) t fun t => ih t df h nx k)
      (Option.rec (evOp o.op tab call t h nx fun v h nx => putT fi o.dst v t fun t => ih t df h nx k)
        (fun c => deferK tab fi c t df fun df => putT fi o.dst (.tup []) t fun t => ih t df h nx k) (isDefer o.op)) w) l

inductive Cls where
  | pure | alloc | read | write

def clsOf (o : Op) : Cls :=
  match o with
  | .move _ | .assign _ | .pick .. | .build .. | .nilCheck _ | .unOp .. | .makeFunc .. | .slice .. | .fieldAddr .. | .field .. | .indexAddr .. | .index .. | .extract .. => .pure
  | .alloc _ | .box .. | .buildSlice .. | .makeMap .. | .makeSlice .. => .alloc
  | .load .. | .lookup .. | .binOp .. | .convert .. => .read
  | .call c => match c.callee with
    | .builtin .len => .read
    | .builtin .max => .pure
    | .builtin .min => .pure
    | _ => .write
  | _ => .write

/-- what is known of an operation of a region whose order is drawn -/
structure Inf where
  o : Oper
  cls : Cls
  looks : List Tmp
  bef : Nat

def looksOf (ops : Array Oper) (o : Oper) : List Tmp :=
  (o.op.operands.toList.filterMap fun | .tmp t => some t | _ => none) ++
  (match o.guard with
   | some (g, _) => (guardTmp ops g).toList
   | none => [])

/-- who must stand ahead of an operation -/
def bitsOf (l : List Nat) (es : List Edge) : Nat :=
  es.foldl (fun b e => match Region.binds .any e with
    | true => Nat.lor (Nat.lor b (Nat.shiftLeft 1 e.on)) (l.getD e.on 0)
    | false => b) 0

def befs (ops : Array Oper) : Nat → List Nat
  | 0 => []
  | n + 1 => let l := befs ops n; l ++ [bitsOf l (match ops[n]? with | some o => o.after.toList | none => [])]

def infs (ops : Array Oper) : List Inf :=
  (ops.toList.zip (befs ops ops.size)).map fun x => ⟨x.1, clsOf x.1.op, looksOf ops x.1, x.2⟩

def Cls.isW (c : Cls) : Bool :=
  match c with
  | .write => true
  | _ => false
def Cls.isA (c : Cls) : Bool :=
  match c with
  | .alloc => true
  | _ => false
def Cls.isR (c : Cls) : Bool :=
  match c with
  | .read => true
  | _ => false

def inL (d : Option Tmp) (l : List Tmp) : Bool :=
  match d with
  | some d => l.any fun n => Nat.beq n d
  | none => false
def sameD (a b : Option Tmp) : Bool :=
  match a, b with
  | some a, some b => Nat.beq a b
  | _, _ => false

/-- may the two stand so, a at place i, b at place j? -/
def okPair (i : Nat) (a : Inf) (j : Nat) (b : Inf) : Bool :=
  match Nat.blt i j with
  | true => (Nat.testBit b.bef i || (!(a.cls.isW && b.cls.isW) && !(a.cls.isA && b.cls.isW) && !(inL a.o.dst b.looks) && !(inL b.o.dst a.looks))) && !(sameD a.o.dst b.o.dst)
  | false => match Nat.beq i j with
    | true => !(inL a.o.dst a.looks) && (isDefer a.o.op).isNone && a.o.after.toList.all fun e => !(Region.binds .any e) || Nat.blt e.on i
    | false => true

def okAll (l : List Inf) : Bool := (l.zipIdx).all fun b => (l.zipIdx).all fun a => okPair a.2 a.1 b.2 b.1

/-- the readers that are to be evaluated again: reader, writer, ahead of it (or behind it) -/
def pairsAt (i : Nat) (a : Inf) (j : Nat) (b : Inf) : List (Nat × Nat × Bool) :=
  match Nat.blt i j && !(Nat.testBit b.bef i) with
  | true => (match a.cls.isW && b.cls.isR with | true => [(j, i, true)] | false => []) ++ (match a.cls.isR && b.cls.isW with | true => [(i, j, false)] | false => [])
  | false => []
def pairsOf (l : List Inf) : List (Nat × Nat × Bool) := (l.zipIdx).flatMap fun b => (l.zipIdx).flatMap fun a => pairsAt a.2 a.1 b.2 b.1

/-- what an operation of such a region came to -/
structure Rec where
  q : Bool
  t : T CV
  v : CV
  h : T Blk
  nx : Nat
  h' : T Blk
  nx' : Nat

mutual
def CV.same : CV → CV → Bool
  | .bool a, .bool b => eqB a b
  | .int k a, .int k' b => kEq k k' && eqN a b
  | .ptr a b, .ptr c d => Nat.beq a c && Nat.beq b d
  | .nilptr, .nilptr => true
  | .slice a b c (.known d), .slice a' b' c' (.known d') => Nat.beq a a' && Nat.beq b b' && Nat.beq c c' && Nat.beq d d'
  | .slice a b c (.opn d), .slice a' b' c' (.opn d') => Nat.beq a a' && Nat.beq b b' && Nat.beq c c' && Nat.beq d d'
  | .nilslice, .nilslice => true
  | .mapv a, .mapv b => Nat.beq a b
  | .nilmap, .nilmap => true
  | .fn f a b, .fn f' a' b' => Nat.beq f f' && CV.sames a a' && CV.sames b b'
  | .nilfn, .nilfn => true
  | .agg a, .agg b => CV.sames a b
  | .tup a, .tup b => CV.sames a b
  | _, _ => false
def CV.sames : List CV → List CV → Bool
  | [], [] => true
  | a :: as, b :: bs => CV.same a b && CV.sames as bs
  | _, _ => false
end

/-- a reader once more, in another heap: does it read the same? -/
def again (o : Op) (tab : Tab) (t : T CV) (h : T Blk) (v : CV) (k : Res β) : Res β :=
  evOp o tab (fun _ _ _ _ _ => .bad 140) t h 0 fun v' _ _ => grd 141 (v'.same v) k

def nthK {α : Type} (l : List α) : Nat → (α → Res β) → Res β :=
  List.rec (motive := fun _ => Nat → (α → Res β) → Res β) (fun _ _ => .bad 142) (fun x _ ih n k => Nat.rec (k x) (fun m _ => ih m k) n) l

def chkPairs (tab : Tab) (l : List Inf) (rs : List Rec) (ps : List (Nat × Nat × Bool)) (k : Res β) : Res β :=
  List.rec k (fun p _ ih => Prod.rec (fun i p => Prod.rec (fun j ahead => nthK l i fun x => nthK rs i fun r => nthK rs j fun w =>
    Bool.rec ih (again x.o.op tab r.t (Bool.rec w.h' w.h ahead) r.v ih) (r.q && w.q)) p) p) ps

/-- the temporaries that are looked at -/
def lookK (l : List Tmp) (t : T CV) : T CV → (T CV → Res β) → Res β :=
  List.rec (motive := fun _ => T CV → (T CV → Res β) → Res β) (fun acc k => k acc)
    (fun n _ ih acc k => optK 136 (t.get n) fun v => acc.setK n v fun acc => ih acc k) l

def drawOps (ops : Array Oper) (tab : Tab) (call : CallT β) (fi : FI) (l : List Inf) : T CV → T Blk → Nat → (T CV → T Blk → Nat → List Rec → Res β) → Res β :=
  List.rec (motive := fun _ => T CV → T Blk → Nat → (T CV → T Blk → Nat → List Rec → Res β) → Res β) (fun t h nx k => k t h nx [])
    (fun p _ ih t h nx k => lookK p.looks t .nil fun tr => wantK ops p.o tr fun w => Bool.rec
      (putT fi p.o.dst (.tup []) t fun t => ih t h nx fun t' h' nx' rs => k t' h' nx' (⟨false, tr, .tup [], h, nx, h, nx⟩ :: rs))
      (evOp p.o.op tab call tr h nx fun v h₁ nx₁ => putT fi p.o.dst v t fun t => ih t h₁ nx₁ fun t' h' nx' rs => k t' h' nx' (⟨true, tr, v, h, nx, h₁, nx₁⟩ :: rs)) w) l

def runDraw (ops : Array Oper) (tab : Tab) (call : CallT β) (fi : FI) (l : List Inf) (t : T CV) (h : T Blk) (nx : Nat) (k : T CV → T Blk → Nat → Res β) : Res β :=
  drawOps ops tab call fi l t h nx fun t h nx rs => chkPairs tab l rs (pairsOf l) (k t h nx)

/-! ## code -/

abbrev KC (β : Type) := Ex → T CV → List Df → T Blk → Nat → Res β
abbrev CodeT (β : Type) := Tab → CallT β → FI → T CV → List Df → T Blk → Nat → KC β → Res β

def loopN (n : Nat) (body : T CV → List Df → T Blk → Nat → KC β → Res β) : T CV → List Df → T Blk → Nat → KC β → Res β :=
  Nat.rec (motive := fun _ => T CV → List Df → T Blk → Nat → KC β → Res β) (fun _ _ _ _ _ => .bad 150)
    (fun _ ih t df h nx k => body t df h nx fun ex t df h nx => Ex.rec (ih t df h nx k) (fun i => k (.exit i) t df h nx) (k .ret t df h nx) ex) n

def rcRegion (ops : Array Oper) (draw : Bool) : CodeT β := fun tab call fi t df h nx k =>
  Bool.rec (runOps ops tab call fi ops.toList t df h nx fun t df h nx => k .normal t df h nx)
    (Bool.rec (.bad 151) (runDraw ops tab call fi (infs ops) t h nx fun t h nx => k .normal t df h nx) (okAll (infs ops))) draw

def rcSeq (a b : CodeT β) : CodeT β := fun tab call fi t df h nx k =>
  a tab call fi t df h nx fun ex t df h nx => Ex.rec (b tab call fi t df h nx k) (fun i => k (.exit i) t df h nx) (k .ret t df h nx) ex

def rcCond (c : Operand) (a b : CodeT β) : CodeT β := fun tab call fi t df h nx k => evO c tab t fun v => match v with
  | .bool x => Bool.rec (b tab call fi t df h nx k) (a tab call fi t df h nx k) x
  | _ => .bad 152

def rcBlock (id : Nat) (a : CodeT β) : CodeT β := fun tab call fi t df h nx k =>
  a tab call fi t df h nx fun ex t df h nx => Ex.rec (k .normal t df h nx) (fun i => Bool.rec (k (.exit i) t df h nx) (k .normal t df h nx) (Nat.beq i id)) (k .ret t df h nx) ex

def rcLoop (a : CodeT β) : CodeT β := fun tab call fi t df h nx k => loopN 4000 (a tab call fi) t df h nx k

def exOf (c : Option Code) (k : Ex → Res β) : Res β :=
  match c with
  | none => k .normal
  | some .ret => k .ret
  | some (.exit i) => k (.exit i)
  | _ => .bad 153

def loopK (h : T Blk) (l : Nat) (k : T CV → Nat → List Tmp → Code → Code → LoopState → Option Code → Res β) : Res β :=
  optK 154 (h.get l) fun B => match B with
    | .loop t nt ps a b st pd => k t nt ps a b st pd
    | _ => .bad 155

def rcRangeFunc (f : Operand) (params : Array Tmp) (assign body : Code) : CodeT β := fun tab call fi t df h nx k => evO f tab t fun f => match f, fi.round with
  | .fn g x y, none => Option.rec
    (newBlk .mark h nx fun b h nx => newBlk (.loop t fi.nt params.toList assign body .ready none) h nx fun l h nx =>
      call (.fn g x y) [.yield l] h nx fun _ h nx => loopK h l fun _ _ _ _ _ st pd => match st with
        | .busy => .bad 156
        | _ => h.delK l fun h => exOf pd fun ex => k ex t (.mark b :: df) h nx)
    (fun _ => .bad 157) (tab.prims.get g)
  | _, _ => .bad 157

def runCode (c : Code) : CodeT β :=
  Code.rec (motive := fun _ => CodeT β)
    (fun _ _ _ t df h nx k => k .normal t df h nx)
    (fun _ ops draw => rcRegion ops draw)
    (fun _ _ a b => rcSeq a b)
    (fun c _ _ a b => rcCond c a b)
    (fun id _ a => rcBlock id a)
    (fun _ a => rcLoop a)
    (fun f ps a b _ _ => rcRangeFunc f ps a b)
    (fun i _ _ _ t df h nx k => k (.exit i) t df h nx)
    (fun _ a => a)
    (fun _ _ _ _ t df h nx k => k .normal t df h nx)
    (fun _ _ _ _ _ _ _ _ _ => .bad 158)
    (fun _ _ _ t df h nx k => k .ret t df h nx)
    (fun _ _ _ _ _ _ _ _ _ => .bad 159) c

/-! ## calls -/

def resultsK (tab : Tab) (t : T CV) (h : T Blk) (l : List ResultVar) : (List CV → Res β) → Res β :=
  List.rec (motive := fun _ => (List CV → Res β) → Res β) (fun k => k [])
    (fun r _ ih k => match r with
      | .tmp n => optK 160 (t.get n) fun v => ih fun vs => k (v :: vs)
      | .cell a ty => optK 161 (t.get a) fun a => match a with
        | .ptr b o => tyK tab ty fun ti => getVar ti h b o fun v => ih fun vs => k (v :: vs)
        | _ => .bad 162) l

def runDefers (call : CallT β) (l : List Df) : T Blk → Nat → (T Blk → Nat → Res β) → Res β :=
  List.rec (motive := fun _ => T Blk → Nat → (T Blk → Nat → Res β) → Res β) (fun h nx k => k h nx)
    (fun d _ ih h nx k => match d with
      | .call f args => call (.mapv f) args h nx fun _ h nx => ih h nx k
      | .mark b => optK 163 (h.get b) fun B => match B with
        | .mark => h.delK b fun h => ih h nx k
        | _ => .bad 164) l

def putAll (l : List CV) : Nat → T CV → (T CV → Res β) → Res β :=
  List.rec (motive := fun _ => Nat → T CV → (T CV → Res β) → Res β) (fun _ t k => k t)
    (fun v _ ih n t k => t.setK n v fun t => ih (Nat.succ n) t k) l

def setAll (nt : Nat) : List Tmp → List CV → T CV → (T CV → Res β) → Res β
  | [], [], t, k => k t
  | d :: ds, v :: vs, t, k => grd 165 (Nat.blt d nt) <| t.setK d v fun t => setAll nt ds vs t k
  | _, _, _, _ => .bad 166

/-- do the cells hold this row? do the package's variables hold what they held at the start? -/
def chkRow (cs : T CV) (l : List CV) : Nat → Res β → Res β :=
  List.rec (motive := fun _ => Nat → Res β → Res β) (fun _ k => k) (fun v _ ih i k => optK 190 (cs.get i) fun x => grd 191 (x.same v) (ih (Nat.succ i) k)) l
def chkGlobs (h : T Blk) (gs : List (Nat × List CV)) (k : Res β) : Res β :=
  List.rec k (fun p _ ih => Prod.rec (fun g l => blkK h g fun _ cs _ => chkRow cs l 0 ih) p) gs

def primOp (p : Prim) (args : List CV) (h : T Blk) (nx : Nat) (k : K β) : Res β :=
  match p, args with
  | .nop0, [] => k (.tup []) h nx
  | .nop1, [.ptr b _] => blkK h b fun _ _ _ => k (.tup []) h nx
  | .load kd, [.ptr b o] => blkK h b fun _ cs _ => optK 167 (cs.get o) fun v => match v with
    | .int k' x => grd 168 (kEq kd k') <| k (.int kd x) h nx
    | _ => .bad 168
  | .store, [.ptr b o, .int kd y] => putCells [.int kd y] h b o fun h => k (.tup []) h nx
  | .add kd, [.ptr b o, .int kd' d] => blkK h b fun _ cs _ => optK 168 (cs.get o) fun x => match x with
    | .int k' x => grd 169 (kEq kd k') <| grd 169 (kEq kd kd') <| intK (kd.wrap (x + d)) fun y => putCells [.int kd y] h b o fun h => k (.int kd y) h nx
    | _ => .bad 170
  | .cas kd, [.ptr b o, .int ko old, .int kn new] => blkK h b fun _ cs rw => grd 171 rw <| optK 171 (cs.get o) fun x => match x with
    | .int k' x => grd 172 (kEq kd k') <| grd 172 (kEq kd ko) <| grd 172 (kEq kd kn) <| Bool.rec (k (.bool false) h nx) (putCells [.int kd new] h b o fun h => k (.bool true) h nx) (eqN x old)
    | _ => .bad 173
  | .const gs v, [] => chkGlobs h gs (k v h nx)
  | .spec g, args => optK 192 (g args h nx) fun p => k p.1 p.2.1 p.2.2
  | _, _ => .bad 174

def retK (vs : List CV) (h : T Blk) (nx : Nat) (k : K β) : Res β :=
  match vs with
  | [v] => k v h nx
  | vs => k (.tup vs) h nx

/-- a function's body; the call of a deferred function leaves none of its own -/
def callBody (dfr : Bool) (tab : Tab) (call : CallT β) (f : FuncId) (args : List CV) (h : T Blk) (nx : Nat) (k : K β) : Res β :=
  optK 175 (tab.funcs.get f) fun fn => optK 176 fn.body fun body => putAll args 0 .nil fun t => grd 177 (Nat.ble (lenN args) fn.ntmps) <|
    runCode body tab call ⟨fn.ntmps, none⟩ t [] h nx fun ex t df h nx =>
      let fin : Res β := match dfr, df with
        | true, _ :: _ => .bad 179
        | _, df => runDefers call df h nx fun h nx => resultsK tab t h fn.results.toList fun vs => retK vs h nx k
      Ex.rec fin (fun _ => .bad 178) fin ex

def callFn (tab : Tab) (call : CallT β) (f : FuncId) (args : List CV) (h : T Blk) (nx : Nat) (k : K β) : Res β :=
  Option.rec (callBody false tab call f args h nx k) (fun p => primOp p args h nx k) (tab.prims.get f)

def callYield (tab : Tab) (call : CallT β) (l : Nat) (args : List CV) (h : T Blk) (nx : Nat) (k : K β) : Res β :=
  loopK h l fun t0 nt ps a b _ _ => setAll nt ps args t0 fun t =>
    runCode a tab call ⟨nt, some l⟩ t [] h nx fun ex t df h nx => Ex.rec
      (loopK h l fun t1 nt1 ps1 a1 b1 st1 pd1 => match st1 with
        | .ready => h.setK l (.loop t1 nt1 ps1 a1 b1 .busy pd1) fun h =>
          runCode b tab call ⟨nt, some l⟩ t df h nx fun ex _ _ h nx => loopK h l fun t2 nt2 ps2 a2 b2 _ _ => Ex.rec
            (h.setK l (.loop t2 nt2 ps2 a2 b2 .ready none) fun h => k (.bool true) h nx)
            (fun i => h.setK l (.loop t2 nt2 ps2 a2 b2 .done (some (.exit i))) fun h => k (.bool false) h nx)
            (h.setK l (.loop t2 nt2 ps2 a2 b2 .done (some .ret)) fun h => k (.bool false) h nx) ex
        | _ => .bad 180)
      (fun _ => .bad 179) (.bad 179) ex

def callN (tab : Tab) (d : Nat) : CallT β :=
  Nat.rec (motive := fun _ => CallT β) (fun _ _ _ _ _ => .bad 181)
    (fun _ call f args h nx k => match f with
      | .fn f a b => match a, b with
        | [], [] => callFn tab call f args h nx k
        | a, b => callFn tab call f (a ++ args ++ b) h nx k
      | .yield l => callYield tab call l args h nx k
      | .mapv f => Option.rec (callBody true tab call f args h nx k) (fun _ => .bad 183) (tab.prims.get f)
      | _ => .bad 182) d

end
end Go.Can
set_option linter.unusedVariables false
set_option linter.unusedSimpArgs false
namespace Go.Can

/-! ## the steps of the evaluator, inverted -/
section
variable {α β : Type}

theorem natK_eq (n : Nat) (k : Nat → Res β) : natK n k = k n := by cases n <;> rfl
theorem intK_eq (n : Int) (k : Int → Res β) : intK n k = k n := by
  cases n with
  | ofNat m => exact natK_eq m (fun m => k (.ofNat m))
  | negSucc m => exact natK_eq m (fun m => k (.negSucc m))
theorem boolK_eq (b : Bool) (k : Bool → Res β) : boolK b k = k b := by cases b <;> rfl
theorem optK_ok {c : Nat} {x : Option α} {k : α → Res β} {r : β} (h : optK c x k = .ok r) : ∃ a, x = some a ∧ k a = .ok r := by
  cases x with
  | none => exact absurd h (by simp [optK])
  | some a => exact ⟨a, rfl, h⟩
theorem grd_ok {c : Nat} {b : Bool} {k : Res β} {r : β} (h : grd c b k = .ok r) : b = true ∧ k = .ok r := by
  cases b with
  | false => exact absurd h (by simp [grd])
  | true => exact ⟨rfl, h⟩
theorem bad_ok {n : Nat} {r : β} (h : (Res.bad n : Res β) = .ok r) : False := by cases h

/-! ## the map -/

def unpath : Path → Nat
  | .z => 0
  | .a p => 4 * unpath p + 1
  | .b p => 4 * unpath p + 2
  | .c p => 4 * unpath p + 3
  | .d p => 4 * unpath p + 4

theorem pathF_zero (f : Nat) : pathF f 0 = .z := by cases f <;> rfl

theorem pathF_succ (f m : Nat) : pathF (f + 1) (m + 1) =
    (match m % 4 with | 0 => Path.a (pathF f (m / 4)) | 1 => .b (pathF f (m / 4)) | 2 => .c (pathF f (m / 4)) | _ => .d (pathF f (m / 4))) := by
  show (Nat.rec _ _ (m % 4) : Path) = _
  have h : m % 4 < 4 := Nat.mod_lt _ (by decide)
  generalize m % 4 = r at h
  match r, h with
  | 0, _ => rfl
  | 1, _ => rfl
  | 2, _ => rfl
  | 3, _ => rfl

theorem unpath_pathF : ∀ (f n : Nat), n < f → unpath (pathF f n) = n
  | 0, n, h => absurd h (Nat.not_lt_zero _)
  | f + 1, 0, _ => by rw [pathF_zero]; rfl
  | f + 1, m + 1, h => by
    rw [pathF_succ]
    have ih := unpath_pathF f (m / 4) (by omega)
    have h4 : m % 4 < 4 := Nat.mod_lt _ (by decide)
    generalize hr : m % 4 = r at h4
    match r, h4 with
    | 0, _ => simp only [unpath, ih]; omega
    | 1, _ => simp only [unpath, ih]; omega
    | 2, _ => simp only [unpath, ih]; omega
    | 3, _ => simp only [unpath, ih]; omega

theorem unpath_path (n : Nat) : unpath (path n) = n := unpath_pathF _ _ (Nat.lt_succ_self n)
theorem path_inj {m n : Nat} (h : path m = path n) : m = n := by rw [← unpath_path m, h, unpath_path]

theorem getP_nil (p : Path) : getP p (T.nil : T α) = none := by cases p <;> rfl

/-- what a store into the map leaves -/
def setD (x : Option α) : Path → T α → T α
  | .z, .nil => .node x .nil .nil .nil .nil
  | .z, .node _ c0 c1 c2 c3 => .node x c0 c1 c2 c3
  | .a p, .nil => .node none (setD x p .nil) .nil .nil .nil
  | .a p, .node v c0 c1 c2 c3 => .node v (setD x p c0) c1 c2 c3
  | .b p, .nil => .node none .nil (setD x p .nil) .nil .nil
  | .b p, .node v c0 c1 c2 c3 => .node v c0 (setD x p c1) c2 c3
  | .c p, .nil => .node none .nil .nil (setD x p .nil) .nil
  | .c p, .node v c0 c1 c2 c3 => .node v c0 c1 (setD x p c2) c3
  | .d p, .nil => .node none .nil .nil .nil (setD x p .nil)
  | .d p, .node v c0 c1 c2 c3 => .node v c0 c1 c2 (setD x p c3)

theorem setP_eq (x : Option α) : ∀ (p : Path) (t : T α) (k : T α → Res β), setP x p t k = k (setD x p t)
  | .z, .nil, _ => rfl
  | .z, .node .., _ => rfl
  | .a p, .nil, k => setP_eq x p .nil _
  | .a p, .node v c0 c1 c2 c3, k => setP_eq x p c0 _
  | .b p, .nil, k => setP_eq x p .nil _
  | .b p, .node v c0 c1 c2 c3, k => setP_eq x p c1 _
  | .c p, .nil, k => setP_eq x p .nil _
  | .c p, .node v c0 c1 c2 c3, k => setP_eq x p c2 _
  | .d p, .nil, k => setP_eq x p .nil _
  | .d p, .node v c0 c1 c2 c3, k => setP_eq x p c3 _

theorem getP_setD_same (x : Option α) : ∀ (p : Path) (t : T α), getP p (setD x p t) = x
  | .z, .nil => rfl
  | .z, .node .. => rfl
  | .a p, .nil => getP_setD_same x p .nil
  | .a p, .node v c0 c1 c2 c3 => getP_setD_same x p c0
  | .b p, .nil => getP_setD_same x p .nil
  | .b p, .node v c0 c1 c2 c3 => getP_setD_same x p c1
  | .c p, .nil => getP_setD_same x p .nil
  | .c p, .node v c0 c1 c2 c3 => getP_setD_same x p c2
  | .d p, .nil => getP_setD_same x p .nil
  | .d p, .node v c0 c1 c2 c3 => getP_setD_same x p c3

theorem getP_a (p : Path) (t : T α) : getP (.a p) t = match t with | .nil => none | .node _ c0 _ _ _ => getP p c0 := by cases t <;> rfl
theorem getP_b (p : Path) (t : T α) : getP (.b p) t = match t with | .nil => none | .node _ _ c1 _ _ => getP p c1 := by cases t <;> rfl
theorem getP_c (p : Path) (t : T α) : getP (.c p) t = match t with | .nil => none | .node _ _ _ c2 _ => getP p c2 := by cases t <;> rfl
theorem getP_d (p : Path) (t : T α) : getP (.d p) t = match t with | .nil => none | .node _ _ _ _ c3 => getP p c3 := by cases t <;> rfl
theorem getP_z (t : T α) : getP .z t = match t with | .nil => none | .node v _ _ _ _ => v := by cases t <;> rfl

theorem getP_setD_ne (x : Option α) : ∀ (p q : Path) (t : T α), p ≠ q → getP q (setD x p t) = getP q t := by
  intro p
  induction p with
  | z => intro q t h; cases q <;> first | exact absurd rfl h | (cases t <;> simp [setD, getP_a, getP_b, getP_c, getP_d, getP_nil])
  | a p ih | b p ih | c p ih | d p ih =>
    intro q t h
    cases q with
    | z => cases t <;> simp [setD, getP_z]
    | a q => cases t <;> simp [setD, getP_a, getP_nil] <;> (first | rfl | (rw [ih q _ (fun e => h (by rw [e]))]; try exact getP_nil _))
    | b q => cases t <;> simp [setD, getP_b, getP_nil] <;> (first | rfl | (rw [ih q _ (fun e => h (by rw [e]))]; try exact getP_nil _))
    | c q => cases t <;> simp [setD, getP_c, getP_nil] <;> (first | rfl | (rw [ih q _ (fun e => h (by rw [e]))]; try exact getP_nil _))
    | d q => cases t <;> simp [setD, getP_d, getP_nil] <;> (first | rfl | (rw [ih q _ (fun e => h (by rw [e]))]; try exact getP_nil _))

theorem T.get_nil (n : Nat) : (T.nil : T α).get n = none := getP_nil _

/-- a store into the map -/
def T.set (t : T α) (n : Nat) (x : α) : T α := setD (some x) (path n) t
/-- a place of the map forgotten -/
def T.del (t : T α) (n : Nat) : T α := setD none (path n) t
theorem setK_eq (t : T α) (n : Nat) (x : α) (k : T α → Res β) : t.setK n x k = k (t.set n x) := setP_eq _ _ _ _
theorem delK_eq (t : T α) (n : Nat) (k : T α → Res β) : t.delK n k = k (t.del n) := setP_eq _ _ _ _
theorem T.get_set (t : T α) (n m : Nat) (x : α) : (t.set n x).get m = if m = n then some x else t.get m := by
  by_cases h : m = n
  · subst h; simp only [if_true]; exact getP_setD_same _ _ _
  · rw [if_neg h]; exact getP_setD_ne _ _ _ _ (fun e => h (path_inj e).symm)
theorem T.get_del (t : T α) (n m : Nat) : (t.del n).get m = if m = n then none else t.get m := by
  by_cases h : m = n
  · subst h; simp only [if_true]; exact getP_setD_same _ _ _
  · rw [if_neg h]; exact getP_setD_ne _ _ _ _ (fun e => h (path_inj e).symm)
end

/-! ## rows of cells -/
section
variable {β : Type}

theorem lenN_eq (l : List CV) : lenN l = l.length := by
  induction l with
  | nil => rfl
  | cons v l ih => show Nat.succ (lenN l) = _; rw [ih]; rfl

theorem lenK_eq : ∀ (l : List CV) (n : Nat) (k : Nat → Res β), lenK l n k = k (n + l.length)
  | [], n, k => rfl
  | v :: l, n, k => by
    have := lenK_eq l (n + 1) k
    show lenK l (Nat.succ n) k = _
    rw [this]; congr 1; simp; omega

theorem readCells_ok : ∀ (n o : Nat) {cs : T CV} {k : List CV → Res β} {r : β}, readCells cs n o k = .ok r →
    ∃ l, k l = .ok r ∧ l.length = n ∧ ∀ i, i < n → cs.get (o + i) = l[i]?
  | 0, o, cs, k, r, h => ⟨[], h, rfl, fun i hi => absurd hi (Nat.not_lt_zero _)⟩
  | n + 1, o, cs, k, r, h => by
    obtain ⟨v, hv, h⟩ := optK_ok (show optK 3 (cs.get o) _ = .ok r from h)
    obtain ⟨l, hk, hl, hg⟩ := readCells_ok n (o + 1) h
    refine ⟨v :: l, hk, by simp [hl], fun i hi => ?_⟩
    cases i with
    | zero => simpa using hv
    | succ i => have := hg i (by omega); simp only [List.getElem?_cons_succ, ← this]; congr 1; omega

theorem writeCells_ok : ∀ (l : List CV) (cs : T CV) (o : Nat) {k : T CV → Res β} {r : β}, writeCells l cs o k = .ok r →
    (∀ v ∈ l, v.one = true) ∧ ∃ cs', k cs' = .ok r ∧ ∀ i, cs'.get i = if o ≤ i ∧ i < o + l.length then l[i - o]? else cs.get i
  | [], cs, o, k, r, h => ⟨by simp, cs, h, fun i => by rw [if_neg (by simp only [List.length_nil]; omega)]⟩
  | v :: l, cs, o, k, r, h => by
    obtain ⟨h1, h⟩ := grd_ok (show grd 4 v.one _ = .ok r from h)
    rw [setK_eq] at h
    obtain ⟨h2, cs', hk, hg⟩ := writeCells_ok l (cs.set o v) (o + 1) h
    refine ⟨by simpa using ⟨h1, h2⟩, cs', hk, fun i => ?_⟩
    rw [hg i, T.get_set]
    simp only [List.length_cons]
    by_cases hi : i = o
    · subst hi; rw [if_neg (by omega), if_pos rfl, if_pos (by omega)]; simp
    · rw [if_neg hi]
      by_cases hj : o + 1 ≤ i ∧ i < o + 1 + l.length
      · rw [if_pos hj, if_pos (by omega)]
        have : i - o = (i - (o + 1)) + 1 := by omega
        rw [this, List.getElem?_cons_succ]
      · rw [if_neg hj, if_neg (by omega)]

theorem newCells_ok {l : List CV} {h : T Blk} {nx : Nat} {k : Nat → T Blk → Nat → Res β} {r : β} (e : newCells l h nx k = .ok r) :
    ∃ cs, (∀ i, cs.get i = l[i]?) ∧ k nx (h.set nx (.cells l.length cs true)) (nx + 1) = .ok r := by
  obtain ⟨_, cs, e, hg⟩ := writeCells_ok l .nil 0 (show writeCells l .nil 0 _ = .ok r from e)
  rw [lenK_eq, Nat.zero_add] at e
  unfold newBlk at e
  rw [setK_eq, natK_eq] at e
  refine ⟨cs, fun i => ?_, e⟩
  rw [hg i]
  by_cases hi : i < l.length
  · rw [if_pos (by omega)]; simp
  · rw [if_neg (by omega), T.get_nil, List.getElem?_eq_none (by omega)]

theorem newBlk_eq (b : Blk) (h : T Blk) (nx : Nat) (k : Nat → T Blk → Nat → Res β) : newBlk b h nx k = k nx (h.set nx b) (nx + 1) := by
  unfold newBlk; rw [setK_eq, natK_eq]

theorem blkK_ok {h : T Blk} {b : Nat} {k : Nat → T CV → Bool → Res β} {r : β} (e : blkK h b k = .ok r) :
    ∃ n cs rw, h.get b = some (.cells n cs rw) ∧ k n cs rw = .ok r := by
  obtain ⟨B, hB, e⟩ := optK_ok e
  cases B with
  | cells n cs rw => exact ⟨n, cs, rw, hB, e⟩
  | _ => exact (bad_ok e).elim

theorem mapK_ok {h : T Blk} {b : Nat} {k : List (CV × CV) → Res β} {r : β} (e : mapK h b k = .ok r) :
    ∃ es, h.get b = some (.map es) ∧ k es = .ok r := by
  obtain ⟨B, hB, e⟩ := optK_ok e
  cases B with
  | map es => exact ⟨es, hB, e⟩
  | _ => exact (bad_ok e).elim

theorem putCells_ok {l : List CV} {h : T Blk} {b o : Nat} {k : T Blk → Res β} {r : β} (e : putCells l h b o k = .ok r) :
    ∃ n cs cs', h.get b = some (.cells n cs true) ∧ o + l.length ≤ n ∧ (∀ v ∈ l, v.one = true) ∧
      (∀ i, cs'.get i = if o ≤ i ∧ i < o + l.length then l[i - o]? else cs.get i) ∧ k (h.set b (.cells n cs' true)) = .ok r := by
  obtain ⟨n, cs, rw, hB, e1⟩ := blkK_ok e
  obtain ⟨hrw, e2⟩ := grd_ok e1
  rw [lenK_eq] at e2
  obtain ⟨hle, e3⟩ := grd_ok e2
  obtain ⟨h1, cs', e4, hg⟩ := writeCells_ok _ _ _ e3
  rw [setK_eq] at e4
  subst hrw
  exact ⟨n, cs, cs', hB, Nat.le_of_ble_eq_true hle, h1, hg, e4⟩
end
end Go.Can
namespace Go.Can

/-! ## what the canonical state says of a world -/

structure Loc where
  blk : Nat
  off : Nat
  fin : Nat

abbrev Sg := Nat → Option Loc
def Sg.le (σ τ : Sg) : Prop := ∀ c L, σ c = some L → τ c = some L
def Sg.upd (σ : Sg) (c : Nat) (L : Loc) : Sg := fun x => if x = c then some L else σ x

theorem Sg.le.refl (σ : Sg) : σ.le σ := fun _ _ h => h
theorem Sg.le.trans {σ τ υ : Sg} (h : σ.le τ) (h' : τ.le υ) : σ.le υ := fun c L e => h' c L (h c L e)
theorem Sg.upd_same (σ : Sg) (c : Nat) (L : Loc) : σ.upd c L c = some L := by simp [Sg.upd]
theorem Sg.upd_ne (σ : Sg) {c x : Nat} (L : Loc) (h : x ≠ c) : σ.upd c L x = σ x := by simp [Sg.upd, h]
theorem Sg.le_upd {σ : Sg} {c : Nat} {L : Loc} (h : σ c = none) : σ.le (σ.upd c L) := fun x M e => by
  by_cases hx : x = c
  · subst hx; rw [h] at e; cases e
  · rw [Sg.upd_ne σ L hx]; exact e

def CapRel (L : Loc) (o c : Nat) : Cap → Prop
  | .known n => c = n
  | .opn e => 0 < e ∧ L.off + o + c * e = L.fin

mutual
def VRel (σ : Sg) : CV → Value → Prop
  | .bool b, v => v = .bool b
  | .int k n, v => v = .int k n
  | .ptr b o, v => ∃ L, σ b = some L ∧ v = .pointer (some ⟨L.blk, L.off + o, none⟩)
  | .nilptr, v => v = .pointer none
  | .slice b o len cap, v => ∃ L c, σ b = some L ∧ v = .slice (some ⟨L.blk, L.off + o, none⟩) len c ∧ len ≤ c ∧ CapRel L o c cap
  | .nilslice, v => v = .slice none 0 0
  | .mapv b, v => ∃ L, σ b = some L ∧ v = .map (some L.blk)
  | .nilmap, v => v = .map none
  | .fn f a b, v => ∃ a' b' : Array Value, v = .func (.func f) a' b' ∧ VRels σ a a'.toList ∧ VRels σ b b'.toList
  | .nilfn, v => v = .nilFunc
  | .yield l, v => ∃ L, σ l = some L ∧ v = .func (.yield L.blk) #[] #[]
  | .iter b, v => ∃ L, σ b = some L ∧ v = .pointer (some ⟨L.blk, 0, none⟩)
  | .iface t x, v => ∃ x', v = .iface t x' ∧ VRel σ x x'
  | .niliface, v => v = .nilIface
  | .agg cs, v => ∃ vs : Array Value, v = .agg vs ∧ VRels σ cs vs.toList
  | .tup cs, v => ∃ vs : Array Value, v = .tuple vs ∧ VRels σ cs vs.toList
  | .str s, v => v = .string s
def VRels (σ : Sg) : List CV → List Value → Prop
  | [], l => l = []
  | c :: cs, l => ∃ v vs, l = v :: vs ∧ VRel σ c v ∧ VRels σ cs vs
end

mutual
theorem VRel.mono {σ τ : Sg} (h : σ.le τ) : ∀ (c : CV) {v : Value}, VRel σ c v → VRel τ c v
  | .bool b, v, r => r
  | .int k n, v, r => r
  | .ptr b o, v, ⟨L, hL, e⟩ => ⟨L, h _ _ hL, e⟩
  | .nilptr, v, r => r
  | .slice b o len cap, v, ⟨L, c, hL, e⟩ => ⟨L, c, h _ _ hL, e⟩
  | .nilslice, v, r => r
  | .mapv b, v, ⟨L, hL, e⟩ => ⟨L, h _ _ hL, e⟩
  | .nilmap, v, r => r
  | .fn f a b, v, ⟨a', b', e, ha, hb⟩ => ⟨a', b', e, VRels.mono h a ha, VRels.mono h b hb⟩
  | .nilfn, v, r => r
  | .yield l, v, ⟨L, hL, e⟩ => ⟨L, h _ _ hL, e⟩
  | .iter b, v, ⟨L, hL, e⟩ => ⟨L, h _ _ hL, e⟩
  | .iface t x, v, ⟨x', e, hx⟩ => ⟨x', e, VRel.mono h x hx⟩
  | .niliface, v, r => r
  | .agg cs, v, ⟨vs, e, hv⟩ => ⟨vs, e, VRels.mono h cs hv⟩
  | .tup cs, v, ⟨vs, e, hv⟩ => ⟨vs, e, VRels.mono h cs hv⟩
  | .str s, v, r => r
theorem VRels.mono {σ τ : Sg} (h : σ.le τ) : ∀ (cs : List CV) {l : List Value}, VRels σ cs l → VRels τ cs l
  | [], l, r => r
  | c :: cs, l, ⟨v, vs, e, hc, hs⟩ => ⟨v, vs, e, VRel.mono h c hc, VRels.mono h cs hs⟩
end

theorem VRels.length {σ : Sg} : ∀ {cs : List CV} {l : List Value}, VRels σ cs l → l.length = cs.length
  | [], l, r => by cases r; rfl
  | c :: cs, l, ⟨v, vs, e, _, hs⟩ => by cases e; simp [VRels.length hs]

theorem VRels.get {σ : Sg} : ∀ {cs : List CV} {l : List Value}, VRels σ cs l → ∀ {i : Nat} {c : CV}, cs[i]? = some c → ∃ v, l[i]? = some v ∧ VRel σ c v
  | [], l, r, i, c, h => by simp at h
  | c :: cs, l, ⟨v, vs, e, hc, hs⟩, 0, c', h => by cases e; simp at h; subst h; exact ⟨v, rfl, hc⟩
  | c :: cs, l, ⟨v, vs, e, hc, hs⟩, i + 1, c', h => by cases e; simp at h; simpa using VRels.get hs h

theorem VRels.of_get {σ : Sg} : ∀ {cs : List CV} {l : List Value}, l.length = cs.length → (∀ (i : Nat) (c : CV), cs[i]? = some c → ∃ v, l[i]? = some v ∧ VRel σ c v) → VRels σ cs l
  | [], l, hl, _ => List.length_eq_zero_iff.1 hl
  | c :: cs, [], hl, _ => by simp at hl
  | c :: cs, v :: vs, hl, h => by
    obtain ⟨v', e, hc⟩ := h 0 c rfl
    simp at e; subst e
    exact ⟨v, vs, rfl, hc, VRels.of_get (by simpa using hl) fun i c' hi => by simpa using h (i + 1) c' (by simpa using hi)⟩

theorem VRels.append {σ : Sg} : ∀ {a b : List CV} {k l : List Value}, VRels σ a k → VRels σ b l → VRels σ (a ++ b) (k ++ l)
  | [], b, k, l, r, h => by cases r; exact h
  | c :: cs, b, k, l, ⟨v, vs, e, hc, hs⟩, h => by cases e; exact ⟨v, vs ++ l, rfl, hc, VRels.append hs h⟩

theorem VRels.nil {σ : Sg} : VRels σ [] [] := rfl
theorem VRels.one {σ : Sg} {c : CV} {v : Value} (h : VRel σ c v) : VRels σ [c] [v] := ⟨v, [], rfl, h, rfl⟩

/-- the cells of a value -/
theorem VRel.cells {σ : Sg} {c : CV} {v : Value} (h : VRel σ c v) : VRels σ c.cells v.cells.toList := by
  cases c with
  | agg cs => obtain ⟨vs, rfl, hv⟩ := h; exact hv
  | bool => cases h; exact VRels.one rfl
  | int => cases h; exact VRels.one rfl
  | nilptr => cases h; exact VRels.one rfl
  | nilslice => cases h; exact VRels.one rfl
  | nilmap => cases h; exact VRels.one rfl
  | nilfn => cases h; exact VRels.one rfl
  | niliface => cases h; exact VRels.one rfl
  | str => cases h; exact VRels.one rfl
  | ptr => obtain ⟨L, hL, rfl⟩ := h; exact VRels.one ⟨L, hL, rfl⟩
  | slice => obtain ⟨L, c, hL, rfl, hr⟩ := h; exact VRels.one ⟨L, c, hL, rfl, hr⟩
  | mapv => obtain ⟨L, hL, rfl⟩ := h; exact VRels.one ⟨L, hL, rfl⟩
  | fn => obtain ⟨a, b, rfl, hr⟩ := h; exact VRels.one ⟨a, b, rfl, hr⟩
  | yield => obtain ⟨L, hL, rfl⟩ := h; exact VRels.one ⟨L, hL, rfl⟩
  | iter => obtain ⟨L, hL, rfl⟩ := h; exact VRels.one ⟨L, hL, rfl⟩
  | iface => obtain ⟨x, rfl, hr⟩ := h; exact VRels.one ⟨x, rfl, hr⟩
  | tup => obtain ⟨vs, rfl, hr⟩ := h; exact VRels.one ⟨vs, rfl, hr⟩

theorem VRel.oneCell {σ : Sg} {c : CV} {v : Value} (h : VRel σ c v) (h1 : c.one = true) : v.oneCell' = true := by
  cases c with
  | agg cs => simp [CV.one] at h1
  | tup cs => simp [CV.one] at h1
  | bool => cases h; rfl
  | int => cases h; rfl
  | nilptr => cases h; rfl
  | nilslice => cases h; rfl
  | nilmap => cases h; rfl
  | nilfn => cases h; rfl
  | niliface => cases h; rfl
  | str => cases h; rfl
  | ptr => obtain ⟨L, hL, rfl⟩ := h; rfl
  | slice => obtain ⟨L, c, hL, rfl, hr⟩ := h; rfl
  | mapv => obtain ⟨L, hL, rfl⟩ := h; rfl
  | fn => obtain ⟨a, b, rfl, hr⟩ := h; rfl
  | yield => obtain ⟨L, hL, rfl⟩ := h; rfl
  | iter => obtain ⟨L, hL, rfl⟩ := h; rfl
  | iface => obtain ⟨x, rfl, hr⟩ := h; rfl

/-- temporaries -/
def TRel (σ : Sg) (t : T CV) (tmps : Array Value) : Prop := ∀ n c, t.get n = some c → ∃ v, tmps[n]? = some v ∧ VRel σ c v

theorem TRel.mono {σ τ : Sg} (h : σ.le τ) {t : T CV} {tmps : Array Value} (r : TRel σ t tmps) : TRel τ t tmps :=
  fun n c e => let ⟨v, hv, hr⟩ := r n c e; ⟨v, hv, hr.mono h⟩

/-- the entries of a map -/
def MRel (σ : Sg) : List (CV × CV) → List MapEntry → Prop
  | [], l => l = []
  | (a, b) :: es, l => ∃ e l', l = e :: l' ∧ VRel σ a e.key ∧ VRel σ b e.val ∧ MRel σ es l'

theorem MRel.mono {σ τ : Sg} (h : σ.le τ) : ∀ {es : List (CV × CV)} {l : List MapEntry}, MRel σ es l → MRel τ es l
  | [], l, r => r
  | (a, b) :: es, l, ⟨e, l', hl, ha, hb, hr⟩ => ⟨e, l', hl, ha.mono h, hb.mono h, MRel.mono h hr⟩

def Blk.rw : Blk → Bool
  | .cells _ _ rw => rw
  | _ => true

def BRel (σ : Sg) (L : Loc) (w : World) : Blk → Prop
  | .cells n cs rw => ∃ arr e fz, w.heap[L.blk]? = some (.cells arr e fz) ∧ L.off + n ≤ L.fin ∧ L.fin ≤ arr.size ∧ (rw = true → fz = (0, 0)) ∧
      ∀ i c, cs.get i = some c → i < n ∧ ∃ v, arr[L.off + i]? = some v ∧ VRel σ c v
  | .map es => ∃ arr clock, w.heap[L.blk]? = some (.map arr clock) ∧ MRel σ es arr.toList
  | .iter m => ∃ mm since st, w.heap[L.blk]? = some (.mapIter mm since #[] st) ∧
      (match m with | none => mm = none | some c => ∃ M, σ c = some M ∧ mm = some M.blk)
  | .loop t nt ps a b st pd => ∃ r : Loop, w.heap[L.blk]? = some (.loop r) ∧ r.state = st ∧ r.pending = pd ∧ r.params.toList = ps ∧ r.assign = a ∧ r.body = b ∧ nt ≤ r.tmps.size ∧ TRel σ t r.tmps
  | .mark => w.heap[L.blk]? = some (.deferred (some []))

theorem BRel.mono {σ τ : Sg} (h : σ.le τ) {L : Loc} {w : World} {B : Blk} (r : BRel σ L w B) : BRel τ L w B := by
  cases B with
  | cells n cs rw => obtain ⟨arr, e, fz, h1, h2, h3, h4, h5⟩ := r; exact ⟨arr, e, fz, h1, h2, h3, h4, fun i c hi => let ⟨a, v, b, d⟩ := h5 i c hi; ⟨a, v, b, d.mono h⟩⟩
  | map es => obtain ⟨arr, cl, h1, h2⟩ := r; exact ⟨arr, cl, h1, h2.mono h⟩
  | iter m =>
    obtain ⟨mm, s, st, h1, h2⟩ := r
    refine ⟨mm, s, st, h1, ?_⟩
    cases m with
    | none => exact h2
    | some c => obtain ⟨M, hM, e⟩ := h2; exact ⟨M, h _ _ hM, e⟩
  | loop t nt ps a b st pd => obtain ⟨r, h1, h2, h3, h4, h5, h6, h7, h8⟩ := r; exact ⟨r, h1, h2, h3, h4, h5, h6, h7, h8.mono h⟩
  | mark => exact r

theorem BRel.heap {σ : Sg} {L : Loc} {w w' : World} (h : w'.heap[L.blk]? = w.heap[L.blk]?) {B : Blk} (r : BRel σ L w B) : BRel σ L w' B := by
  cases B <;> simp only [BRel, h] at r ⊢ <;> exact r

structure HPart (G : Nat) (σ : Sg) (h : T Blk) (nx : Nat) (w : World) : Prop where
  dom : ∀ c L, σ c = some L → c < nx ∧ L.blk < w.heap.size
  blk : ∀ c L B, σ c = some L → h.get c = some B → BRel σ L w B
  inj : ∀ c c' L L' B B', σ c = some L → σ c' = some L' → h.get c = some B → h.get c' = some B' → (B.rw = true ∨ B'.rw = true) → L.blk = L'.blk → c = c'
  glob : ∀ g, g < G → ∃ L, σ g = some L ∧ L.blk = g ∧ L.off = 0

/-- is an old block covered: by a block that may be written; by any -/
def CovW (σ : Sg) (h : T Blk) (b : Nat) : Prop := ∃ c L B, σ c = some L ∧ h.get c = some B ∧ B.rw = true ∧ L.blk = b
def Cov (σ : Sg) (h : T Blk) (b : Nat) : Prop := ∃ c L B, σ c = some L ∧ h.get c = some B ∧ L.blk = b

structure Step (σ : Sg) (h : T Blk) (w : World) (σ' : Sg) (h' : T Blk) (w' : World) : Prop where
  le : σ.le σ'
  size : w.heap.size ≤ w'.heap.size
  frame : ∀ b, b < w.heap.size → ¬ CovW σ h b → w'.heap[b]? = w.heap[b]?
  covW : ∀ b, b < w.heap.size → CovW σ' h' b → CovW σ h b
  cov : ∀ b, b < w.heap.size → Cov σ' h' b → Cov σ h b
  tape : w'.tape = w.tape
  os : w'.os = w.os
  output : w'.output = w.output

theorem Step.refl (σ : Sg) (h : T Blk) (w : World) : Step σ h w σ h w :=
  ⟨.refl σ, Nat.le_refl _, fun _ _ _ => rfl, fun _ _ h => h, fun _ _ h => h, rfl, rfl, rfl⟩

theorem Step.trans {σ σ₁ σ₂ : Sg} {h h₁ h₂ : T Blk} {w w₁ w₂ : World} (a : Step σ h w σ₁ h₁ w₁) (b : Step σ₁ h₁ w₁ σ₂ h₂ w₂) : Step σ h w σ₂ h₂ w₂ where
  le := a.le.trans b.le
  size := Nat.le_trans a.size b.size
  frame := fun x hx hn => by rw [b.frame x (Nat.lt_of_lt_of_le hx a.size) (fun hc => hn (a.covW x hx hc)), a.frame x hx hn]
  covW := fun x hx hc => a.covW x hx (b.covW x (Nat.lt_of_lt_of_le hx a.size) hc)
  cov := fun x hx hc => a.cov x hx (b.cov x (Nat.lt_of_lt_of_le hx a.size) hc)
  tape := b.tape.trans a.tape
  os := b.os.trans a.os
  output := b.output.trans a.output

section
variable {G : Nat} {σ : Sg} {h : T Blk} {nx : Nat} {w : World}

theorem HPart.sub (r : HPart G σ h nx w) {h' : T Blk} (hs : ∀ c B, h'.get c = some B → h.get c = some B) : HPart G σ h' nx w :=
  ⟨r.dom, fun c L B e e' => r.blk c L B e (hs c B e'), fun c c' L L' B B' a b x y => r.inj c c' L L' B B' a b (hs _ _ x) (hs _ _ y), r.glob⟩

theorem HPart.nx_le (r : HPart G σ h nx w) {m : Nat} (hm : nx ≤ m) : HPart G σ h m w :=
  ⟨fun c L e => ⟨Nat.lt_of_lt_of_le (r.dom c L e).1 hm, (r.dom c L e).2⟩, r.blk, r.inj, r.glob⟩

theorem HPart.world (r : HPart G σ h nx w) {w' : World} (hw : w'.heap = w.heap) : HPart G σ h nx w' :=
  ⟨fun c L e => by rw [hw]; exact r.dom c L e, fun c L B e e' => (r.blk c L B e e').heap (by rw [hw]), r.inj, r.glob⟩

theorem Step.sub (σ : Sg) {h h' : T Blk} (w : World) (hs : ∀ c B, h'.get c = some B → h.get c = some B) : Step σ h w σ h' w :=
  ⟨.refl σ, Nat.le_refl _, fun _ _ _ => rfl, fun _ _ ⟨c, L, B, a, b, d⟩ => ⟨c, L, B, a, hs _ _ b, d⟩, fun _ _ ⟨c, L, B, a, b, d⟩ => ⟨c, L, B, a, hs _ _ b, d⟩, rfl, rfl, rfl⟩

theorem Step.world (σ : Sg) (h : T Blk) {w w' : World} (hw : w'.heap = w.heap) (ht : w'.tape = w.tape) (ho : w'.os = w.os) (hp : w'.output = w.output) : Step σ h w σ h w' :=
  ⟨.refl σ, by rw [hw]; exact Nat.le_refl _, fun _ _ _ => by rw [hw], fun _ _ h => h, fun _ _ h => h, ht, ho, hp⟩

theorem HPart.fresh (r : HPart G σ h nx w) : σ nx = none := by
  cases e : σ nx with
  | none => rfl
  | some L => exact absurd (r.dom _ _ e).1 (Nat.lt_irrefl _)

/-- A NEW BLOCK. -/
theorem HPart.new (r : HPart G σ h nx w) (o : Obj) (B : Blk) (fin : Nat) (hB : BRel (σ.upd nx ⟨w.heap.size, 0, fin⟩) ⟨w.heap.size, 0, fin⟩ (w.alloc o) B) :
    HPart G (σ.upd nx ⟨w.heap.size, 0, fin⟩) (h.set nx B) (nx + 1) (w.alloc o) ∧ Step σ h w (σ.upd nx ⟨w.heap.size, 0, fin⟩) (h.set nx B) (w.alloc o) := by
  have hf := r.fresh
  have hle : σ.le (σ.upd nx ⟨w.heap.size, 0, fin⟩) := Sg.le_upd hf
  have old : ∀ b, b < w.heap.size → (w.alloc o).heap[b]? = w.heap[b]? := fun b hb => by
    simp only [World.alloc, Array.getElem?_push]; rw [if_neg (Nat.ne_of_lt hb)]
  have get : ∀ {c L B'}, (σ.upd nx ⟨w.heap.size, 0, fin⟩) c = some L → (h.set nx B).get c = some B' →
      (c = nx ∧ L = ⟨w.heap.size, 0, fin⟩ ∧ B' = B) ∨ (c ≠ nx ∧ σ c = some L ∧ h.get c = some B') := by
    intro c L B' e e'
    rw [T.get_set] at e'
    by_cases hc : c = nx
    · subst hc; rw [Sg.upd_same] at e; simp at e e'; exact .inl ⟨rfl, e.symm, e'.symm⟩
    · rw [Sg.upd_ne σ _ hc] at e; rw [if_neg hc] at e'; exact .inr ⟨hc, e, e'⟩
  refine ⟨⟨?_, ?_, ?_, ?_⟩, ⟨hle, by simp, fun b hb _ => old b hb, ?_, ?_, rfl, rfl, rfl⟩⟩
  · intro c L e
    by_cases hc : c = nx
    · subst hc; rw [Sg.upd_same] at e; cases e; exact ⟨by omega, by simp⟩
    · rw [Sg.upd_ne σ _ hc] at e; have := r.dom c L e; exact ⟨by omega, by simp; omega⟩
  · intro c L B' e e'
    rcases get e e' with ⟨rfl, rfl, rfl⟩ | ⟨hc, e, e'⟩
    · exact hB
    · exact ((r.blk c L B' e e').heap (old _ (r.dom c L e).2)).mono hle
  · intro c c' L L' B₁ B₂ e₁ e₂ g₁ g₂ hrw hb
    rcases get e₁ g₁ with ⟨a1, a2, a3⟩ | ⟨hc, f₁, k₁⟩ <;> rcases get e₂ g₂ with ⟨b1, b2, b3⟩ | ⟨hc', f₂, k₂⟩
    · rw [a1, b1]
    · have := (r.dom _ _ f₂).2; rw [a2] at hb; simp at hb; omega
    · have := (r.dom _ _ f₁).2; rw [b2] at hb; simp at hb; omega
    · exact r.inj _ _ _ _ _ _ f₁ f₂ k₁ k₂ hrw hb
  · intro g hg
    obtain ⟨L, e, h1⟩ := r.glob g hg
    exact ⟨L, hle _ _ e, h1⟩
  · rintro b hb ⟨c, L, B', e, e', hw', rfl⟩
    rcases get e e' with ⟨rfl, rfl, rfl⟩ | ⟨hc, e, e'⟩
    · simp at hb
    · exact ⟨c, L, B', e, e', hw', rfl⟩
  · rintro b hb ⟨c, L, B', e, e', rfl⟩
    rcases get e e' with ⟨rfl, rfl, rfl⟩ | ⟨hc, e, e'⟩
    · simp at hb
    · exact ⟨c, L, B', e, e', rfl⟩

/-- A BLOCK THAT MAY BE WRITTEN HOLDS SOMETHING ELSE. -/
theorem HPart.put (r : HPart G σ h nx w) {b : Nat} {L : Loc} {B B' : Blk} {w' : World} (hL : σ b = some L) (hB : h.get b = some B) (hrw : B.rw = true) (hrw' : B'.rw = true)
    (hs : w'.heap.size = w.heap.size) (ho : ∀ x, x ≠ L.blk → w'.heap[x]? = w.heap[x]?) (hr : BRel σ L w' B') (ht : w'.tape = w.tape) (hos : w'.os = w.os) (hout : w'.output = w.output) :
    HPart G σ (h.set b B') nx w' ∧ Step σ h w σ (h.set b B') w' := by
  have get : ∀ {c M X}, σ c = some M → (h.set b B').get c = some X → (c = b ∧ M = L ∧ X = B') ∨ (c ≠ b ∧ h.get c = some X) := by
    intro c M X e e'
    rw [T.get_set] at e'
    by_cases hc : c = b
    · subst hc; rw [hL] at e; simp at e e'; exact .inl ⟨rfl, e.symm, e'.symm⟩
    · rw [if_neg hc] at e'; exact .inr ⟨hc, e'⟩
  refine ⟨⟨?_, ?_, ?_, r.glob⟩, ⟨.refl σ, by omega, ?_, ?_, ?_, ht, hos, hout⟩⟩
  · intro c M e; rw [hs]; exact r.dom c M e
  · intro c M X e e'
    rcases get e e' with ⟨rfl, rfl, rfl⟩ | ⟨hc, e'⟩
    · exact hr
    · exact (r.blk c M X e e').heap (ho _ fun hb => hc (r.inj c b M L X B e hL e' hB (.inr hrw) hb))
  · intro c c' M M' X X' e₁ e₂ g₁ g₂ hw' hb
    rcases get e₁ g₁ with ⟨a1, a2, a3⟩ | ⟨hc, k₁⟩ <;> rcases get e₂ g₂ with ⟨b1, b2, b3⟩ | ⟨hc', k₂⟩
    · rw [a1, b1]
    · subst a1; exact r.inj _ _ _ _ _ _ e₁ e₂ hB k₂ (.inl hrw) hb
    · subst b1; exact r.inj _ _ _ _ _ _ e₁ e₂ k₁ hB (.inr hrw) hb
    · exact r.inj _ _ _ _ _ _ e₁ e₂ k₁ k₂ hw' hb
  · intro x hx hn
    exact ho x fun hb => hn ⟨b, L, B, hL, hB, hrw, hb.symm⟩
  · rintro x hx ⟨c, M, X, e, e', h1, rfl⟩
    rcases get e e' with ⟨rfl, rfl, rfl⟩ | ⟨hc, e'⟩
    · exact ⟨c, M, B, hL, hB, hrw, rfl⟩
    · exact ⟨c, M, X, e, e', h1, rfl⟩
  · rintro x hx ⟨c, M, X, e, e', rfl⟩
    rcases get e e' with ⟨rfl, rfl, rfl⟩ | ⟨hc, e'⟩
    · exact ⟨c, M, B, hL, hB, rfl⟩
    · exact ⟨c, M, X, e, e', rfl⟩

/-- A BLOCK GOES ON UNDER A NEW NUMBER, at a place within it (append in place). -/
theorem HPart.move (r : HPart G σ h nx w) {b : Nat} {L L' : Loc} {B B' : Blk} {w' : World} (hL : σ b = some L) (hB : h.get b = some B) (hrw : B.rw = true) (hrw' : B'.rw = true) (hblk : L'.blk = L.blk)
    (hs : w'.heap.size = w.heap.size) (ho : ∀ x, x ≠ L.blk → w'.heap[x]? = w.heap[x]?) (hr : BRel (σ.upd nx L') L' w' B') (ht : w'.tape = w.tape) (hos : w'.os = w.os) (hout : w'.output = w.output) :
    HPart G (σ.upd nx L') ((h.del b).set nx B') (nx + 1) w' ∧ Step σ h w (σ.upd nx L') ((h.del b).set nx B') w' := by
  have hf := r.fresh
  have hle : σ.le (σ.upd nx L') := Sg.le_upd hf
  have get : ∀ {c M X}, (σ.upd nx L') c = some M → ((h.del b).set nx B').get c = some X →
      (c = nx ∧ M = L' ∧ X = B') ∨ (c ≠ nx ∧ c ≠ b ∧ σ c = some M ∧ h.get c = some X) := by
    intro c M X e e'
    rw [T.get_set] at e'
    by_cases hc : c = nx
    · subst hc; rw [Sg.upd_same] at e; simp at e e'; exact .inl ⟨rfl, e.symm, e'.symm⟩
    · rw [Sg.upd_ne σ _ hc] at e; rw [if_neg hc, T.get_del] at e'
      by_cases hb : c = b
      · rw [if_pos hb] at e'; cases e'
      · rw [if_neg hb] at e'; exact .inr ⟨hc, hb, e, e'⟩
  have ne : ∀ {c M X}, c ≠ b → σ c = some M → h.get c = some X → M.blk ≠ L.blk := fun hc e e' hb => hc (r.inj _ _ _ _ _ _ e hL e' hB (.inr hrw) hb)
  refine ⟨⟨?_, ?_, ?_, ?_⟩, ⟨hle, by omega, ?_, ?_, ?_, ht, hos, hout⟩⟩
  · intro c M e
    rw [hs]
    by_cases hc : c = nx
    · subst hc; rw [Sg.upd_same] at e; cases e; exact ⟨by omega, by rw [hblk]; exact (r.dom _ _ hL).2⟩
    · rw [Sg.upd_ne σ _ hc] at e; have := r.dom c M e; exact ⟨by omega, this.2⟩
  · intro c M X e e'
    rcases get e e' with ⟨rfl, rfl, rfl⟩ | ⟨hc, hb, e, e'⟩
    · exact hr
    · exact ((r.blk c M X e e').heap (ho _ (ne hb e e'))).mono hle
  · intro c c' M M' X X' e₁ e₂ g₁ g₂ hw' hb
    rcases get e₁ g₁ with ⟨a1, a2, a3⟩ | ⟨hc, hcb, f₁, k₁⟩ <;> rcases get e₂ g₂ with ⟨b1, b2, b3⟩ | ⟨hc', hcb', f₂, k₂⟩
    · rw [a1, b1]
    · rw [a2] at hb; exact absurd (hb.symm.trans hblk) (ne hcb' f₂ k₂)
    · rw [b2] at hb; exact absurd (hb.trans hblk) (ne hcb f₁ k₁)
    · exact r.inj _ _ _ _ _ _ f₁ f₂ k₁ k₂ hw' hb
  · intro g hg
    obtain ⟨M, e, h1⟩ := r.glob g hg
    exact ⟨M, hle _ _ e, h1⟩
  · intro x hx hn
    exact ho x fun hb => hn ⟨b, L, B, hL, hB, hrw, hb.symm⟩
  · rintro x hx ⟨c, M, X, e, e', h1, rfl⟩
    rcases get e e' with ⟨rfl, rfl, rfl⟩ | ⟨hc, hb, e, e'⟩
    · exact ⟨b, L, B, hL, hB, hrw, hblk.symm⟩
    · exact ⟨c, M, X, e, e', h1, rfl⟩
  · rintro x hx ⟨c, M, X, e, e', rfl⟩
    rcases get e e' with ⟨rfl, rfl, rfl⟩ | ⟨hc, hb, e, e'⟩
    · exact ⟨b, L, B, hL, hB, hblk.symm⟩
    · exact ⟨c, M, X, e, e', rfl⟩
end

/-- the relation, every canonical block being laid -/
structure HRel (G : Nat) (σ : Sg) (h : T Blk) (nx : Nat) (w : World) : Prop extends HPart G σ h nx w where
  full : ∀ c B, h.get c = some B → ∃ L, σ c = some L

section
variable {G : Nat} {σ : Sg} {h : T Blk} {nx : Nat} {w : World}

theorem HRel.sub (r : HRel G σ h nx w) {h' : T Blk} (hs : ∀ c B, h'.get c = some B → h.get c = some B) : HRel G σ h' nx w :=
  ⟨r.toHPart.sub hs, fun c B e => r.full c B (hs c B e)⟩
theorem HRel.nx_le (r : HRel G σ h nx w) {m : Nat} (hm : nx ≤ m) : HRel G σ h m w := ⟨r.toHPart.nx_le hm, r.full⟩
theorem HRel.world (r : HRel G σ h nx w) {w' : World} (hw : w'.heap = w.heap) : HRel G σ h nx w' := ⟨r.toHPart.world hw, r.full⟩
theorem HRel.fresh (r : HRel G σ h nx w) : σ nx = none := r.toHPart.fresh

theorem HRel.new (r : HRel G σ h nx w) (o : Obj) (B : Blk) (fin : Nat) (hB : BRel (σ.upd nx ⟨w.heap.size, 0, fin⟩) ⟨w.heap.size, 0, fin⟩ (w.alloc o) B) :
    HRel G (σ.upd nx ⟨w.heap.size, 0, fin⟩) (h.set nx B) (nx + 1) (w.alloc o) ∧ Step σ h w (σ.upd nx ⟨w.heap.size, 0, fin⟩) (h.set nx B) (w.alloc o) :=
  let ⟨h1, h2⟩ := r.toHPart.new o B fin hB
  ⟨⟨h1, fun c B' e => by
    rw [T.get_set] at e
    by_cases hc : c = nx
    · subst hc; exact ⟨_, Sg.upd_same _ _ _⟩
    · rw [if_neg hc] at e; rw [Sg.upd_ne _ _ hc]; exact r.full c B' e⟩, h2⟩

theorem HRel.put (r : HRel G σ h nx w) {b : Nat} {L : Loc} {B B' : Blk} {w' : World} (hL : σ b = some L) (hB : h.get b = some B) (hrw : B.rw = true) (hrw' : B'.rw = true)
    (hs : w'.heap.size = w.heap.size) (ho : ∀ x, x ≠ L.blk → w'.heap[x]? = w.heap[x]?) (hr : BRel σ L w' B') (ht : w'.tape = w.tape) (hos : w'.os = w.os) (hout : w'.output = w.output) :
    HRel G σ (h.set b B') nx w' ∧ Step σ h w σ (h.set b B') w' :=
  let ⟨h1, h2⟩ := r.toHPart.put hL hB hrw hrw' hs ho hr ht hos hout
  ⟨⟨h1, fun c B' e => by
    rw [T.get_set] at e
    by_cases hc : c = b
    · subst hc; exact ⟨_, hL⟩
    · rw [if_neg hc] at e; exact r.full c B' e⟩, h2⟩

theorem HRel.move (r : HRel G σ h nx w) {b : Nat} {L L' : Loc} {B B' : Blk} {w' : World} (hL : σ b = some L) (hB : h.get b = some B) (hrw : B.rw = true) (hrw' : B'.rw = true) (hblk : L'.blk = L.blk)
    (hs : w'.heap.size = w.heap.size) (ho : ∀ x, x ≠ L.blk → w'.heap[x]? = w.heap[x]?) (hr : BRel (σ.upd nx L') L' w' B') (ht : w'.tape = w.tape) (hos : w'.os = w.os) (hout : w'.output = w.output) :
    HRel G (σ.upd nx L') ((h.del b).set nx B') (nx + 1) w' ∧ Step σ h w (σ.upd nx L') ((h.del b).set nx B') w' :=
  let ⟨h1, h2⟩ := r.toHPart.move hL hB hrw hrw' hblk hs ho hr ht hos hout
  ⟨⟨h1, fun c B' e => by
    rw [T.get_set] at e
    by_cases hc : c = nx
    · subst hc; exact ⟨_, Sg.upd_same _ _ _⟩
    · rw [if_neg hc, T.get_del] at e
      split at e
      · cases e
      · rw [Sg.upd_ne _ _ hc]; exact r.full c B' e⟩, h2⟩
end
end Go.Can
namespace Go.Can
variable {β : Type}

def FW (rnd : Option Nat) : Fence := { Fence.wide with round := rnd }

def Good (P : Program) (r : Result Next) (R : Value → World → Prop) : Prop :=
  ∀ (rnd : Option Nat) (n : Nat) (o : Oper) (a : Act) (next : Act → World → Prop) (Q : Exit → Act → World → Prop),
    (∀ v w, R v w → next (a.put o.dst v) w) → o.uponIn (FW rnd) n P a next Q r

theorem Good.value {P : Program} {v : Value} {w : World} {R : Value → World → Prop} (h : R v w) : Good P (.ok (.value v) w) R :=
  fun _ _ _ _ _ _ hn => hn _ _ h
theorem Good.skip {P : Program} {w : World} {R : Value → World → Prop} (h : R undef w) : Good P (.ok .skip w) R :=
  fun _ _ _ _ _ _ hn => hn _ _ h
theorem Good.mono {P : Program} {r : Result Next} {R R' : Value → World → Prop} (h : Good P r R) (hr : ∀ v w, R v w → R' v w) : Good P r R' :=
  fun rnd n o a next Q hn => h rnd n o a next Q fun v w hv => hn v w (hr v w hv)

/-- what operands are worth -/
structure Env (G : Nat) (σ : Sg) (t : T CV) (ρ : Operand → Value) : Prop where
  tmp : ∀ n c, t.get n = some c → VRel σ c (ρ (.tmp n))
  const : ∀ v, ρ (.const v) = v
  glob : ∀ g, g < G → VRel σ (.ptr g 0) (ρ (.global g))
  func : ∀ f, ρ (.func f) = .func (.func f) #[] #[]

theorem Env.mono {G : Nat} {σ τ : Sg} {t : T CV} {ρ : Operand → Value} (h : σ.le τ) (e : Env G σ t ρ) : Env G τ t ρ :=
  ⟨fun n c hc => (e.tmp n c hc).mono h, e.const, fun g hg => (e.glob g hg).mono h, e.func⟩

mutual
theorem ofValue_ok {σ : Sg} : ∀ (v : Value) {c : CV}, ofValue v = some c → VRel σ c v
  | .bool b, c, h => by simp [ofValue] at h; subst h; rfl
  | .int k n, c, h => by simp [ofValue] at h; subst h; rfl
  | .pointer none, c, h => by simp [ofValue] at h; subst h; rfl
  | .pointer (some a), c, h => by simp [ofValue] at h
  | .slice none 0 0, c, h => by simp [ofValue] at h; subst h; rfl
  | .slice none (n + 1) m, c, h => by simp [ofValue] at h
  | .slice none 0 (m + 1), c, h => by simp [ofValue] at h
  | .slice (some a) n m, c, h => by simp [ofValue] at h
  | .map none, c, h => by simp [ofValue] at h; subst h; rfl
  | .map (some a), c, h => by simp [ofValue] at h
  | .nilFunc, c, h => by simp [ofValue] at h; subst h; rfl
  | .nilIface, c, h => by simp [ofValue] at h; subst h; rfl
  | .string s, c, h => by simp [ofValue] at h; subst h; rfl
  | .agg ⟨cs⟩, c, h => by
    simp only [ofValue, Option.map_eq_some_iff] at h
    obtain ⟨l, hl, rfl⟩ := h
    exact ⟨⟨cs⟩, rfl, ofValues_ok cs hl⟩
  | .tuple ⟨[]⟩, c, h => by simp [ofValue] at h; subst h; exact ⟨#[], rfl, rfl⟩
  | .tuple ⟨x :: xs⟩, c, h => by simp [ofValue] at h
  | .float .., c, h => by simp [ofValue] at h
  | .complex .., c, h => by simp [ofValue] at h
  | .chan .., c, h => by simp [ofValue] at h
  | .func .., c, h => by simp [ofValue] at h
  | .iface .., c, h => by simp [ofValue] at h
theorem ofValues_ok {σ : Sg} : ∀ (l : List Value) {cs : List CV}, ofValues l = some cs → VRels σ cs l
  | [], cs, h => by simp [ofValues] at h; subst h; rfl
  | v :: vs, cs, h => by
    simp only [ofValues] at h
    cases h1 : ofValue v with
    | none => simp [h1] at h
    | some c =>
      cases h2 : ofValues vs with
      | none => simp [h1, h2] at h
      | some ds =>
        simp [h1, h2] at h; subst h
        exact ⟨v, vs, rfl, ofValue_ok v h1, ofValues_ok vs h2⟩
end

theorem evO_ok {o : Operand} {tab : Tab} {t : T CV} {k : CV → Res β} {r : β} (h : evO o tab t k = .ok r) :
    ∃ v, k v = .ok r ∧ ∀ σ ρ, Env tab.ng σ t ρ → VRel σ v (ρ o) := by
  cases o with
  | tmp n => obtain ⟨v, hv, h⟩ := optK_ok (show optK 1 (t.get n) k = .ok r from h); exact ⟨v, h, fun σ ρ e => e.tmp n v hv⟩
  | const x =>
    obtain ⟨v, hv, h⟩ := optK_ok (show optK 2 (ofValue x) k = .ok r from h)
    exact ⟨v, h, fun σ ρ e => by rw [e.const]; exact ofValue_ok x hv⟩
  | global g =>
    obtain ⟨hg, h⟩ := grd_ok (show grd 2 (Nat.blt g tab.ng) _ = .ok r from h)
    exact ⟨_, h, fun σ ρ e => e.glob g (Nat.le_of_ble_eq_true hg)⟩
  | func f => exact ⟨_, h, fun σ ρ e => by rw [e.func]; exact ⟨#[], #[], rfl, rfl, rfl⟩⟩

theorem evOs_ok : ∀ {l : List Operand} {tab : Tab} {t : T CV} {k : List CV → Res β} {r : β}, evOs l tab t k = .ok r →
    ∃ vs, k vs = .ok r ∧ ∀ σ ρ, Env tab.ng σ t ρ → VRels σ vs (l.map ρ)
  | [], tab, t, k, r, h => ⟨[], h, fun _ _ _ => rfl⟩
  | o :: l, tab, t, k, r, h => by
    obtain ⟨v, h, hv⟩ := evO_ok (show evO o tab t _ = .ok r from h)
    obtain ⟨vs, h, hvs⟩ := evOs_ok h
    exact ⟨v :: vs, h, fun σ ρ e => ⟨_, _, rfl, hv σ ρ e, hvs σ ρ e⟩⟩

/-- the tables tell the truth -/
structure TabOK (P : Program) (tab : Tab) : Prop where
  types : ∀ t ti, tab.types.get t = some ti → P.underlying t = some ti.u ∧ ∃ i, P.info? t = some i ∧ i.size = ti.size ∧ i.bytes = ti.bytes ∧
    (∃ z, i.zero = some z ∧ ofValue z = some ti.zero ∧ z.cells.size = ti.size) ∧ ti.agg = (match ti.u with | .struct _ => true | .array _ _ => true | _ => false)
  eqs : ∀ t ti, tab.types.get t = some ti → ti.eqok = true → P.stoodInHeld t = false ∧ P.eqGuardType P.depth t = false
  funcs : ∀ f fn, tab.funcs.get f = some fn → P.funcs[f]? = some fn ∧ (fn.name == "runtime.NumGoroutine") = false

section
variable {P : Program} {tab : Tab}

theorem tyK_ok {t : TypeId} {k : TI → Res β} {r : β} (h : tyK tab t k = .ok r) : ∃ ti, tab.types.get t = some ti ∧ k ti = .ok r := optK_ok h

theorem run_sizeOf' (TO : TabOK P tab) {t : TypeId} {ti : TI} (h : tab.types.get t = some ti) (w : World) : (sizeOf t).run P w = .ok ti.size w := by
  obtain ⟨_, i, hi, hs, _⟩ := TO.types t ti h
  simp [sizeOf, typeInfo, hi, hs]
theorem run_under' (TO : TabOK P tab) {t : TypeId} {ti : TI} (h : tab.types.get t = some ti) (w : World) : (underlying t).run P w = .ok ti.u w := run_underlying (TO.types t ti h).1 w
theorem run_zero' (TO : TabOK P tab) {t : TypeId} {ti : TI} (h : tab.types.get t = some ti) : ∃ z, z.cells.size = ti.size ∧ (∀ σ, VRel σ ti.zero z) ∧ ∀ w, (zeroValue t).run P w = .ok z w := by
  obtain ⟨_, i, hi, _, _, ⟨z, hz, hzz, hzs⟩, _⟩ := TO.types t ti h
  exact ⟨z, hzs, fun σ => ofValue_ok z hzz, fun w => by simp [zeroValue, typeInfo, hi, hz]⟩
theorem run_isAgg' (TO : TabOK P tab) {t : TypeId} {ti : TI} (h : tab.types.get t = some ti) (w : World) : (isAgg t).run P w = .ok ti.agg w := by
  obtain ⟨hu, i, _, _, _, _, ha⟩ := TO.types t ti h
  simp only [isAgg, Sem.run_bind, run_underlying hu, Result.andThen_ok, ha]
  cases ti.u <;> rfl

theorem Addr.add_at (b o i : Nat) : (⟨b, o, none⟩ : Addr).add i = ⟨b, o + i, none⟩ := by
  unfold Addr.add; split <;> simp_all

/-- a cell that the canonical state knows -/
theorem HPart.cell {G : Nat} {σ : Sg} {h : T Blk} {nx : Nat} {w : World} (r : HPart G σ h nx w) {b : Nat} {L : Loc} {n : Nat} {cs : T CV} {rw : Bool} (hL : σ b = some L)
    (hb : h.get b = some (.cells n cs rw)) {i : Nat} {c : CV} (hc : cs.get i = some c) : i < n ∧ ∃ v, w.cell? ⟨L.blk, L.off + i, none⟩ = some v ∧ VRel σ c v := by
  obtain ⟨arr, e, fz, h1, h2, h3, h4, h5⟩ := r.blk b L _ hL hb
  obtain ⟨hi, v, hv, hr⟩ := h5 i c hc
  exact ⟨hi, v, by simp [World.cell?, h1, hv], hr⟩

theorem getVar_ok (TO : TabOK P tab) {G : Nat} {ty : TypeId} {ti : TI} (hti : tab.types.get ty = some ti) {h : T Blk} {b o : Nat} {k : CV → Res β} {r : β} (e : getVar ti h b o k = .ok r) :
    ∃ c, k c = .ok r ∧ ∀ σ nx w L, HPart G σ h nx w → σ b = some L → ∃ v, VRel σ c v ∧ (loadVar ty ⟨L.blk, L.off + o, none⟩).run P w = .ok v w := by
  obtain ⟨n, cs, rw, hb, e⟩ := blkK_ok e
  cases ha : ti.agg with
  | false =>
    rw [ha] at e
    obtain ⟨c, hc, e⟩ := optK_ok (show optK 10 (cs.get o) k = .ok r from e)
    refine ⟨c, e, fun σ nx w L hr hL => ?_⟩
    obtain ⟨_, v, hv, hrel⟩ := hr.cell hL hb hc
    exact ⟨v, hrel, by simp [loadVar, run_isAgg' TO hti, ha, hv]⟩
  | true =>
    rw [ha] at e
    obtain ⟨l, e, hl, hg⟩ := readCells_ok _ _ (show readCells cs ti.size o _ = .ok r from e)
    refine ⟨.agg l, e, fun σ nx w L hr hL => ?_⟩
    have hcell : ∀ i (c : CV), l[i]? = some c → ∃ v, w.cell? ⟨L.blk, L.off + (o + i), none⟩ = some v ∧ VRel σ c v := fun i c hi => by
      have : i < ti.size := by rw [← hl]; exact (List.getElem?_eq_some_iff.1 hi).1
      exact (hr.cell hL hb ((hg i this).trans hi)).2
    let vs : List Value := (List.range ti.size).map fun i => (w.cell? ⟨L.blk, L.off + (o + i), none⟩).getD undef
    have hvs : ∀ i, i < ti.size → vs[i]? = some ((w.cell? ⟨L.blk, L.off + (o + i), none⟩).getD undef) := fun i hi => by simp [vs, hi]
    refine ⟨.agg vs.toArray, ⟨vs.toArray, rfl, ?_⟩, ?_⟩
    · refine VRels.of_get (by simp [vs, hl]) fun i c hi => ?_
      obtain ⟨v, hv, hrel⟩ := hcell i c hi
      have : i < ti.size := by rw [← hl]; exact (List.getElem?_eq_some_iff.1 hi).1
      exact ⟨v, by rw [List.toList_toArray, hvs i this, hv]; rfl, hrel⟩
    · have hload := run_loadCells_list (P := P) w ⟨L.blk, L.off + o, none⟩ vs (fun j v hj => by
        have hjl : j < ti.size := by have := (List.getElem?_eq_some_iff.1 hj).1; simpa [vs] using this
        rw [hvs j hjl] at hj
        obtain ⟨c, hc⟩ : ∃ c, l[j]? = some c := ⟨_, List.getElem?_eq_getElem (by omega)⟩
        obtain ⟨v', hv', _⟩ := hcell j c hc
        rw [hv'] at hj
        simp at hj; subst hj
        rw [Addr.add_at, ← hv', Nat.add_assoc])
      have hlen : vs.length = ti.size := by simp [vs]
      rw [hlen] at hload
      simp [loadVar, run_isAgg' TO hti, ha, run_sizeOf' TO hti, hload]
end
end Go.Can
