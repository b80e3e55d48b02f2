/- An evaluator of the loaded code over a heap of its own, and the proof that what it reckons is what the machine does. Part 1 of 4. -/
import Derived.Orders
import Derived.Below
import Derived.Laws.Sem
import Derived.ChangeKeysEq
set_option linter.unusedVariables false
set_option linter.unusedSimpArgs false

/-
  A DETERMINISTIC EVALUATOR of the loaded code over a heap of its own ('Hp'), for calls whose arguments are closed. What it answers is proved of the machine in the texts that follow: whatever the tape says.
-/
namespace Go.Ev

/-! ### a tree of numbered places -/
inductive Tr (α : Type) where
  | lf : Tr α
  | nd : Option α → Tr α → Tr α → Tr α

def Tr.get {α : Type} : Tr α → Nat → Option α
  | .lf, _ => none
  | .nd o l r, k => match k with
    | 0 => o
    | k + 1 => match Nat.beq (k % 2) 0 with
      | true => l.get (k / 2)
      | false => r.get (k / 2)

def Tr.set {α : Type} : Nat → Tr α → Nat → α → Tr α
  | 0, t, _, _ => t
  | f + 1, t, k, v => match t with
    | .lf => match k with
      | 0 => .nd (some v) .lf .lf
      | k + 1 => match Nat.beq (k % 2) 0 with
        | true => .nd none (Tr.set f .lf (k / 2) v) .lf
        | false => .nd none .lf (Tr.set f .lf (k / 2) v)
    | .nd o l r => match k with
      | 0 => .nd (some v) l r
      | k + 1 => match Nat.beq (k % 2) 0 with
        | true => .nd o (Tr.set f l (k / 2) v) r
        | false => .nd o l (Tr.set f r (k / 2) v)

/-! ### the heap -/
/-- A row of cells. fam 0: no other block can share memory with it; else the family, and where the row begins in it. grown: its slices' capacities are not known. -/
structure Row where
  c : List Value
  e : TypeId
  fam : Nat
  base : Nat
  grown : Bool

inductive CObj where
  | cells (r : Row)
  | map (es : List MapEntry) (clock : Nat)
  | sIter (s : ByteArray) (pos : Nat)
  | mIter (map : Option Nat) (since : Nat) (seen : List Nat) (stepped : Nat)

/-- A family's members that may still be read: block, begin, end. -/
structure Mem where
  b : Nat
  lo : Nat
  hi : Nat

structure Hp where
  objs : Tr CObj
  next : Nat
  fams : Tr (List Mem)
  nfam : Nat

def Hp.nil : Hp := ⟨.lf, 0, .lf, 1⟩
def most : Nat := 1000000
def depth : Nat := 21

def Hp.row (h : Hp) (b : Nat) : Option Row :=
  match h.objs.get b with
  | some (.cells r) => match r.fam with
    | 0 => some r
    | f + 1 => match h.fams.get (f + 1) with
      | some l => match l.any (fun m => Nat.beq m.b b) with
        | true => some r
        | false => Option.none
      | Option.none => Option.none
  | _ => Option.none

def Hp.map? (h : Hp) (b : Nat) : Option (List MapEntry × Nat) :=
  match h.objs.get b with
  | some (.map es k) => some (es, k)
  | _ => Option.none

def Hp.put (h : Hp) (b : Nat) (o : CObj) : Hp := { h with objs := Tr.set depth h.objs b o }

def Hp.new (h : Hp) (o : CObj) : Option (Nat × Hp) :=
  match Nat.blt h.next most with
  | true => some (h.next, { h with objs := Tr.set depth h.objs h.next o, next := h.next + 1 })
  | false => Option.none

def Hp.newRow (h : Hp) (e : TypeId) (c : List Value) : Option (Addr × Hp) :=
  match h.new (.cells ⟨c, e, 0, 0, false⟩) with
  | some (b, h) => some (⟨b, 0, Option.none⟩, h)
  | Option.none => Option.none

def takeN : List Value → Nat → Option (List Value)
  | _, 0 => some []
  | [], _ + 1 => none
  | x :: l, n + 1 => match takeN l n with
    | some r => some (x :: r)
    | none => none

def splice : List Value → Nat → List Value → Option (List Value)
  | c, 0, [] => some c
  | _ :: c, 0, v :: vs => match splice c 0 vs with
    | some r => some (v :: r)
    | none => none
  | x :: c, o + 1, vs => match splice c o vs with
    | some r => some (x :: r)
    | none => none
  | [], 0, _ :: _ => none
  | [], _ + 1, _ => none

def oneCell : Value → Bool
  | .agg _ | .tuple _ => false
  | _ => true

def Hp.load (h : Hp) (a : Addr) : Option Value :=
  match a.spot with
  | some _ => none
  | Option.none => match h.row a.block with
    | some r => r.c[a.off]?
    | Option.none => Option.none

def Hp.loads (h : Hp) (a : Addr) (n : Nat) : Option (List Value) :=
  match n with
  | 0 => some []
  | n + 1 => match a.spot with
    | some _ => Option.none
    | Option.none => match h.row a.block with
      | some r => takeN (r.c.drop a.off) (n + 1)
      | Option.none => Option.none

/-- What else of a family covers a place of [lo, hi) is not to be read any more. -/
def kill (l : List Mem) (b lo hi : Nat) : List Mem :=
  l.filter fun m => Nat.beq m.b b || Nat.ble hi m.lo || Nat.ble m.hi lo

def Hp.stores (h : Hp) (a : Addr) (vs : List Value) : Option Hp :=
  match vs with
  | [] => some h
  | _ :: _ => match a.spot with
    | some _ => Option.none
    | Option.none => match vs.all oneCell with
      | false => Option.none
      | true => match h.row a.block with
        | Option.none => Option.none
        | some r => match splice r.c a.off vs with
          | Option.none => Option.none
          | some c =>
            let h' := h.put a.block (.cells { r with c := c })
            match r.fam with
            | 0 => some h'
            | f + 1 => match h.fams.get (f + 1) with
              | Option.none => Option.none
              | some l => some { h' with fams := Tr.set depth h.fams (f + 1) (kill l a.block (r.base + a.off) (r.base + a.off + vs.length)) }

/-! ### values -/
/-- No address in it. -/
def plain : Nat → Value → Bool
  | _, .bool _ | _, .int .. | _, .float .. | _, .complex .. | _, .string _ | _, .nilFunc | _, .nilIface => true
  | _, .pointer none | _, .map none | _, .chan none | _, .slice none 0 0 => true
  | n + 1, .agg cs => cs.toList.all (plain n)
  | n + 1, .tuple cs => cs.toList.all (plain n)
  | n + 1, .iface _ v => plain n v
  | _, _ => false

def undef' : Value := .tuple #[]

structure A where
  tmps : Tr Value
  n : Nat

def A.get (a : A) (t : Nat) : Value := match a.tmps.get t with
  | some v => v
  | none => undef'

def A.ev (a : A) : Operand → Option Value
  | .tmp t => some (a.get t)
  | .const v => match plain 9 v with
    | true => some v
    | false => none
  | .global _ => none
  | .func f => some (.func (.func f) #[] #[])

def A.put (a : A) (d : Option Nat) (v : Value) : Option A :=
  match d with
  | none => some a
  | some d => match Nat.blt d a.n with
    | true => some { a with tmps := Tr.set depth a.tmps d v }
    | false => none

def bytesEq : List UInt8 → List UInt8 → Bool
  | [], [] => true
  | a :: x, b :: y => match Nat.beq a.toNat b.toNat with
    | true => bytesEq x y
    | false => false
  | _, _ => false

def bytesLt : List UInt8 → List UInt8 → Bool
  | _, [] => false
  | [], _ :: _ => true
  | a :: x, b :: y => match Nat.blt a.toNat b.toNat with
    | true => true
    | false => match Nat.beq a.toNat b.toNat with
      | true => bytesLt x y
      | false => false

def kindEq : IntKind → IntKind → Bool
  | .i8, .i8 | .i16, .i16 | .i32, .i32 | .i64, .i64 | .u8, .u8 | .u16, .u16 | .u32, .u32 | .u64, .u64 => true
  | _, _ => false

def intEq : Int → Int → Bool
  | .ofNat a, .ofNat b => Nat.beq a b
  | .negSucc a, .negSucc b => Nat.beq a b
  | _, _ => false

def intLe (a b : Int) : Bool := match b - a with
  | .ofNat _ => true
  | .negSucc _ => false
def intLt (a b : Int) : Bool := intLe (a + 1) b

def part (P : Program) (t : TypeId) (cs : List Value) (off : Nat) : Option Value :=
  match P.underlying t with
  | some (.struct _) | some (.array _ _) => match P.info? t with
    | some i => some (.agg ((cs.drop off).take i.size).toArray)
    | none => none
  | some _ => cs[off]?
  | none => none

/-- '==' of two values; none: it isn't served. -/
def eqv (P : Program) (h : Hp) : Nat → TypeId → Value → Value → Option Bool
  | 0, _, _, _ => none
  | d + 1, t, x, y => match P.underlying t, x, y with
    | some .bool, .bool a, .bool b => some (a == b)
    | some (.int _), .int k a, .int k' b => match kindEq k k' with
      | true => some (intEq a b)
      | false => none
    | some .string, .string a, .string b => some (bytesEq a.data.toList b.data.toList)
    | some (.pointer _), .pointer none, .pointer b => some b.isNone
    | some (.pointer _), .pointer (some _), .pointer none => some false
    | some (.pointer e), .pointer (some a), .pointer (some b) => match a.spot, b.spot, P.info? e with
      | none, none, some i => match Nat.beq i.size 0 with
        | true => none
        | false => match Nat.beq a.block b.block with
          | true => match h.row a.block with
            | some _ => some (Nat.beq a.off b.off)
            | none => none
          | false => match h.row a.block, h.row b.block with
            | some r, some q => match Nat.beq r.fam 0, r.grown, Nat.beq q.fam 0, q.grown with
              | true, false, true, false => some false
              | _, _, _, _ => none
            | _, _ => none
      | _, _, _ => none
    | some (.interface _), .nilIface, .nilIface => some true
    | some (.interface _), .nilIface, .iface _ _ | some (.interface _), .iface _ _, .nilIface => some false
    | some (.interface _), .iface tx vx, .iface ty vy => match Nat.beq tx ty with
      | false => some false
      | true => match P.info? tx with
        | some i => match i.comparable with
          | true => eqv P h d tx vx vy
          | false => none
        | none => none
    | some (.struct fields), .agg xs, .agg ys => match P.stoodInHeld t with
      | true => none
      | false => fields.toList.foldr (fun f k => match f.name == "_" with
          | true => k
          | false => match part P f.type xs.toList f.offset, part P f.type ys.toList f.offset with
            | some p, some q => match eqv P h d f.type p q with
              | some true => k
              | r => r
            | _, _ => none) (some true)
    | some (.slice _), .slice none _ _, .slice b _ _ => some b.isNone
    | some (.slice _), .slice (some _) _ _, .slice none _ _ => some false
    | some (.map _ _), .map none, .map b => some b.isNone
    | some (.map _ _), .map (some _), .map none => some false
    | some (.func _ _ _), .nilFunc, .nilFunc => some true
    | some (.func _ _ _), .nilFunc, .func _ _ _ | some (.func _ _ _), .func _ _ _, .nilFunc => some false
    | _, _, _ => none

def intOp (op : BinOp) (k : IntKind) (a b : Int) : Option Value :=
  match op with
  | .add => some (.int k (k.wrap (a + b)))
  | .sub => some (.int k (k.wrap (a - b)))
  | .mul => some (.int k (k.wrap (a * b)))
  | .quo => match intEq b 0 with
    | true => none
    | false => some (.int k (k.wrap (a.tdiv b)))
  | .rem => match intEq b 0 with
    | true => none
    | false => some (.int k (a.tmod b))
  | .eql => some (.bool (intEq a b))
  | .neq => some (.bool (!intEq a b))
  | .lss => some (.bool (intLt a b))
  | .leq => some (.bool (intLe a b))
  | .gtr => some (.bool (intLt b a))
  | .geq => some (.bool (intLe b a))
  | _ => none

def strOp (op : BinOp) (x y : ByteArray) : Option Value :=
  match op with
  | .add => match Nat.ble (x.data.toList.length + y.data.toList.length) 1000000000 with
    | true => some (.string ⟨(x.data.toList ++ y.data.toList).toArray⟩)
    | false => none
  | .eql => some (.bool (bytesEq x.data.toList y.data.toList))
  | .neq => some (.bool (!bytesEq x.data.toList y.data.toList))
  | .lss => some (.bool (bytesLt x.data.toList y.data.toList))
  | .leq => some (.bool (bytesLt x.data.toList y.data.toList || bytesEq x.data.toList y.data.toList))
  | .gtr => some (.bool (!(bytesLt x.data.toList y.data.toList || bytesEq x.data.toList y.data.toList)))
  | .geq => some (.bool (!bytesLt x.data.toList y.data.toList))
  | _ => none

/-- Two nil values of an interface type with methods are not compared, unless one of them is the literal nil. -/
def nilsApart (x y : Operand) (a b : Value) : Bool :=
  match a, b with
  | .nilIface, .nilIface => match x, y with
    | .const _, _ => true
    | _, .const _ => true
    | _, _ => false
  | .agg _, .agg _ => false
  | _, _ => true

def binOp' (P : Program) (h : Hp) (op : BinOp) (t : TypeId) (x y : Operand) (a b : Value) : Option Value :=
  match op, a, b with
  | .shl, .int k n, .int _ m => match m with
    | .ofNat m => some (.int k (k.wrap (n * 2 ^ min m k.bits)))
    | .negSucc _ => none
  | .shr, .int k n, .int _ m => match m with
    | .ofNat m => some (.int k (n.fdiv (2 ^ min m k.bits)))
    | .negSucc _ => none
  | _, .int k n, .int k' m => match kindEq k k' with
    | true => intOp op k n m
    | false => none
  | _, .string s, .string u => strOp op s u
  | .eql, a, b => match nilsApart x y a b with
    | true => match eqv P h 40 t a b with
      | some r => some (.bool r)
      | none => none
    | false => none
  | .neq, a, b => match nilsApart x y a b with
    | true => match eqv P h 40 t a b with
      | some r => some (.bool (!r))
      | none => none
    | false => none
  | _, _, _ => none

def unOp' (op : UnOp) (x : Value) : Option Value :=
  match op, x with
  | .neg, .int k n => some (.int k (k.wrap (0 - n)))
  | .not, .bool b => some (.bool (!b))
  | _, _ => none

def bytesOf : List Value → Option (List UInt8)
  | [] => some []
  | .int .u8 n :: l => match bytesOf l with
    | some r => some (UInt8.ofNat n.toNat :: r)
    | none => none
  | _ :: _ => none

/-- A row that grew: its capacity is the tape's. -/
def Hp.grownRow (h : Hp) (e : TypeId) (c : List Value) : Option (Addr × Hp) :=
  match h.new (.cells ⟨c, e, 0, 0, true⟩) with
  | some (b, h) => some (⟨b, 0, none⟩, h)
  | none => none

def sizeOf' (P : Program) (t : TypeId) : Option Nat := match P.info? t with
  | some i => some i.size
  | none => none

def convert' (P : Program) (h : Hp) (src dst : TypeId) (x : Value) : Option (Value × Hp) :=
  match P.underlying src, P.underlying dst, x with
  | some _, some (.int k), .int _ n => some (.int k (k.wrap n), h)
  | some _, some .string, .string s => some (.string s, h)
  | some _, some (.slice e), .string s => match P.underlying e with
    | some (.int .u8) => match Nat.ble s.data.toList.length 1000000, sizeOf' P e with
      | true, some 1 => match h.grownRow e (s.data.toList.map fun b => .int .u8 b.toNat) with
        | some (a, h) => some (.slice (some a) s.data.toList.length s.data.toList.length, h)
        | none => none
      | _, _ => none
    | _ => none
  | some (.slice e), some .string, .slice none _ _ => match P.underlying e with
    | some (.int .u8) => some (.string ⟨#[]⟩, h)
    | _ => none
  | some (.slice e), some .string, .slice (some a) n _ => match P.underlying e with
    | some (.int .u8) => match h.loads a n with
      | some l => match bytesOf l with
        | some bs => some (.string ⟨bs.toArray⟩, h)
        | none => none
      | none => none
    | _ => none
  | _, _, _ => none

def zero' (P : Program) (t : TypeId) : Option Value :=
  match P.info? t with
  | some i => match i.zero with
    | some v => match plain 9 v with
      | true => some v
      | false => none
    | none => none
  | none => none

def loadVar' (P : Program) (h : Hp) (t : TypeId) (a : Addr) : Option Value :=
  match P.underlying t with
  | some (.struct _) | some (.array _ _) => match P.info? t with
    | some i => match h.loads a i.size with
      | some l => some (.agg l.toArray)
      | none => none
    | none => none
  | some _ => h.load a
  | none => none

def storeVar' (P : Program) (h : Hp) (t : TypeId) (a : Addr) (v : Value) : Option Hp :=
  match P.info? t with
  | some i => match Nat.beq v.cells.toList.length i.size with
    | true => h.stores a v.cells.toList
    | false => none
  | none => none

def fill' (place : Nat → Option (Nat × Nat)) (cells : List Value) : List (Nat × Value) → Option (List Value)
  | [] => some cells
  | (i, v) :: rest => match place i with
    | none => none
    | some (off, size) => match Nat.beq v.cells.toList.length size with
      | false => none
      | true => match splice cells off v.cells.toList with
        | some c => fill' place c rest
        | none => none

def evPairs (a : A) : List (Nat × Operand) → Option (List (Nat × Value))
  | [] => some []
  | (i, x) :: r => match a.ev x, evPairs a r with
    | some v, some l => some ((i, v) :: l)
    | _, _ => none

def evList (a : A) : List Operand → Option (List Value)
  | [] => some []
  | x :: r => match a.ev x, evList a r with
    | some v, some l => some (v :: l)
    | _, _ => none

def build' (P : Program) (t : TypeId) (parts : List (Nat × Value)) : Option Value :=
  match zero' P t with
  | none => none
  | some z => match P.underlying t with
    | some (.struct fields) => match fields.toList.all (fun f => (P.info? f.type).isSome) with
      | true => match fill' (fun i => match fields.toList[i]? with
          | some f => match sizeOf' P f.type with
            | some s => some (f.offset, s)
            | none => none
          | none => none) z.cells.toList parts with
        | some c => some (.agg c.toArray)
        | none => none
      | false => none
    | some (.array _ e) => match sizeOf' P e with
      | some s => match fill' (fun i => some (i * s, s)) z.cells.toList parts with
        | some c => some (.agg c.toArray)
        | none => none
      | none => none
    | _ => none

def repeatN (z : List Value) : Nat → List Value
  | 0 => []
  | n + 1 => z ++ repeatN z n

def buildRow' (P : Program) (t : TypeId) (len : Nat) (parts : List (Nat × Value)) : Option (CObj × (Nat → Value)) :=
  match P.underlying t with
  | some (.slice e) => match sizeOf' P e, zero' P e with
    | some s, some z => match Nat.beq z.cells.toList.length s, Nat.blt 0 s, Nat.ble (len * s) 100000 with
      | true, true, true => match fill' (fun i => some (i * s, s)) (repeatN z.cells.toList len) parts with
        | some c => some (.cells ⟨c, e, 0, 0, false⟩, fun b => .slice (some ⟨b, 0, none⟩) len len)
        | none => none
      | _, _, _ => none
    | _, _ => none
  | _ => none

def natOf : Value → Option Nat
  | .int _ (.ofNat n) => some n
  | _ => none

def makeRow' (P : Program) (t : TypeId) (l c : Value) : Option (CObj × (Nat → Value)) :=
  match P.underlying t, natOf l, natOf c with
  | some (.slice e), some l, some c => match P.info? e, zero' P e with
    | some i, some z => match Nat.beq z.cells.toList.length i.size, Nat.blt 0 i.size, Nat.ble (c * i.size) 100000, Nat.ble (c * i.bytes) 100000000, Nat.ble l c with
      | true, true, true, true, true => match Nat.ble c 100000 with
        | true => some (.cells ⟨repeatN z.cells.toList c, e, 0, 0, false⟩, fun b => .slice (some ⟨b, 0, none⟩) l c)
        | false => none
      | _, _, _, _, _ => none
    | _, _ => none
  | _, _, _ => none

def bound' (x : Option Value) (d top : Nat) : Option Nat :=
  match x with
  | none => some d
  | some (.int _ (.ofNat n)) => match Nat.ble n top with
    | true => some n
    | false => none
  | some _ => none

def slice' (P : Program) (h : Hp) (t : TypeId) (x : Value) (lo hi mx : Option Value) : Option Value :=
  match P.underlying t, x with
  | some .string, .string s => match mx with
    | some _ => none
    | none => match bound' hi s.data.toList.length s.data.toList.length with
      | some hh => match bound' lo 0 hh with
        | some l => some (.string ⟨((s.data.toList.take hh).drop l).toArray⟩)
        | none => none
      | none => none
  | some (.slice e), .slice b len cap => match sizeOf' P e with
    | none => none
    | some sz =>
      let ok : Bool := match b with
        | none => true
        | some a => match a.spot, h.row a.block with
          | none, some r => match r.grown with
            | true => match sizeOf' P r.e with
              | some z => Nat.beq z sz
              | none => false
            | false => true
          | _, _ => false
      match ok, Nat.ble len cap with
      | false, _ => none
      | true, false => none
      | true, true => match mx with
        | some _ => match bound' mx cap cap with
          | some m => match hi with
            | none => none
            | some _ => match bound' hi len m with
              | some hh => match bound' lo 0 hh with
                | some l => some (.slice (b.map (·.add (l * sz))) (hh - l) (m - l))
                | none => none
              | none => none
          | none => none
        | none => match bound' hi len cap with
          | some hh => match bound' lo 0 hh with
            | some l => some (.slice (b.map (·.add (l * sz))) (hh - l) (cap - l))
            | none => none
          | none => none
  | some (.array n e), .pointer (some a) => match sizeOf' P e, a.spot, h.row a.block with
    | some sz, none, some r => match r.grown, mx with
      | false, none => match bound' hi n n with
        | some hh => match bound' lo 0 hh with
          | some l => some (.slice (some (a.add (l * sz))) (hh - l) (n - l))
          | none => none
        | none => none
      | _, _ => none
    | _, _, _ => none
  | _, _ => none

def fieldAddr' (P : Program) (t : TypeId) (x : Value) (f : Nat) : Option Value :=
  match P.underlying t, x with
  | some (.struct fields), .pointer (some a) => match fields.toList[f]?, a.spot with
    | some f, none => match sizeOf' P f.type with
      | some (_ + 1) => some (.pointer (some (a.add f.offset)))
      | _ => none
    | _, _ => none
  | _, _ => none

def indexAddr' (P : Program) (t : TypeId) (x ix : Value) : Option Value :=
  match P.underlying t, x, natOf ix with
  | some (.slice e), .slice (some a) len _, some i => match Nat.blt i len, sizeOf' P e, a.spot with
    | true, some s, none => some (.pointer (some (a.add (i * s))))
    | _, _, _ => none
  | some (.array len e), .pointer (some a), some i => match Nat.blt i len, sizeOf' P e, a.spot with
    | true, some s, none => some (.pointer (some (a.add (i * s))))
    | _, _, _ => none
  | _, _, _ => none

def index' (P : Program) (t : TypeId) (x ix : Value) : Option Value :=
  match P.underlying t, x, natOf ix with
  | some (.array len e), .agg cs, some i => match Nat.blt i len, sizeOf' P e with
    | true, some s => part P e cs.toList (i * s)
    | _, _ => none
  | some .string, .string s, some i => match s.data.toList[i]? with
    | some b => some (.int .u8 b.toNat)
    | none => none
  | _, _, _ => none

/-- A map's keys are of a kind that can be compared. -/
def keyOk (P : Program) : Nat → TypeId → Value → Bool
  | 0, _, _ => false
  | d + 1, t, v => match P.underlying t, v with
    | some (.interface _), .nilIface => true
    | some (.interface _), .iface u x => match P.info? u with
      | some i => match i.comparable with
        | true => keyOk P d u x
        | false => false
      | none => false
    | some (.struct fields), .agg cs => fields.toList.all fun f => match f.name == "_" with
      | true => true
      | false => match part P f.type cs.toList f.offset with
        | some p => keyOk P d f.type p
        | none => false
    | some (.interface _), _ | some (.array _ _), _ | some (.struct _), _ => false
    | some _, _ => true
    | none, _ => false

def find' (P : Program) (h : Hp) (t : TypeId) (k : Value) : List MapEntry → Nat → Option (Option (Nat × Value))
  | [], _ => some none
  | e :: es, i => match eqv P h 40 t k e.key with
    | some true => some (some (i, e.val))
    | some false => find' P h t k es (i + 1)
    | none => none

def entriesOf (h : Hp) : Value → Option (List MapEntry)
  | .map none => some []
  | .map (some r) => match h.map? r with
    | some (es, _) => some es
    | none => none
  | _ => none

def lookup' (P : Program) (h : Hp) (t : TypeId) (x k : Value) (ok : Bool) : Option Value :=
  match P.underlying t with
  | some (.map kt et) => match entriesOf h x, keyOk P 40 kt k with
    | some es, true => match find' P h kt k es 0 with
      | some (some (_, v)) => some (if ok then .tuple #[v, .bool true] else v)
      | some none => match zero' P et with
        | some z => some (if ok then .tuple #[z, .bool false] else z)
        | none => none
      | none => none
    | _, _ => none
  | _ => none

/-- A key that is stored anew is the same one to the bit. -/
def sameKey : Nat → Value → Value → Bool
  | _, .bool a, .bool b => a == b
  | _, .int j a, .int k b => kindEq j k && intEq a b
  | _, .string a, .string b => bytesEq a.data.toList b.data.toList
  | _, .nilIface, .nilIface => true
  | n + 1, .iface t v, .iface u w => Nat.beq t u && sameKey n v w
  | n + 1, .agg a, .agg b => Nat.beq a.toList.length b.toList.length && (a.toList.zip b.toList).all fun (x, y) => sameKey n x y
  | _, _, _ => false

def setAt (f : MapEntry → MapEntry) : List MapEntry → Nat → List MapEntry
  | [], _ => []
  | e :: es, 0 => f e :: es
  | e :: es, i + 1 => e :: setAt f es i

def mapUpdate' (P : Program) (h : Hp) (t : TypeId) (m k v : Value) : Option Hp :=
  match P.underlying t, m with
  | some (.map kt _), .map (some r) => match h.map? r, keyOk P 40 kt k with
    | some (es, clock), true => match find' P h kt k es 0 with
      | some (some (i, _)) => match es[i]? with
        | some e => match sameKey 40 e.key k with
          | true => some (h.put r (.map (setAt (fun e => { e with key := k, val := v }) es i) clock))
          | false => none
        | none => none
      | some none => some (h.put r (.map (es ++ [⟨k, v, clock⟩]) (clock + 1)))
      | none => none
    | _, _ => none
  | _, _ => none

def mapEntry' (P : Program) (h : Hp) (t : TypeId) (m k : Value) : Option (Value × Hp) :=
  match P.underlying t, m with
  | some (.map kt et), .map (some r) => match h.map? r, keyOk P 40 kt k with
    | some (es, clock), true => match find' P h kt k es 0 with
      | some (some (i, v)) => match es[i]? with
        | some e => match sameKey 40 e.key k with
          | true => some (.tuple #[v, .int .i64 e.born], h.put r (.map (setAt (fun e => { e with key := k }) es i) clock))
          | false => none
        | none => none
      | some none => match zero' P et with
        | some z => some (.tuple #[z, .int .i64 clock], h.put r (.map (es ++ [⟨k, z, clock⟩]) (clock + 1)))
        | none => none
      | none => none
    | _, _ => none
  | _, _ => none

def bornAt (b : Nat) : List MapEntry → Nat → Option Nat
  | [], _ => none
  | e :: es, i => match Nat.beq e.born b with
    | true => some i
    | false => bornAt b es (i + 1)

def entryStore' (h : Hp) (m s v : Value) : Option Hp :=
  match m, natOf s with
  | .map (some r), some b => match h.map? r with
    | some (es, clock) => match bornAt b es 0 with
      | some i => some (h.put r (.map (setAt (fun e => { e with val := v }) es i) clock))
      | none => none
    | none => none
  | _, _ => none

def delete' (P : Program) (h : Hp) (t : TypeId) (m k : Value) : Option (Value × Hp) :=
  match P.underlying t, m with
  | some (.map kt _), .map none => match keyOk P 40 kt k with
    | true => some (.tuple #[], h)
    | false => none
  | some (.map kt _), .map (some r) => match h.map? r, keyOk P 40 kt k with
    | some (es, clock), true => match find' P h kt k es 0 with
      | some (some (i, _)) => some (.tuple #[], h.put r (.map (es.eraseIdx i) clock))
      | some none => some (.tuple #[], h)
      | none => none
    | _, _ => none
  | _, _ => none

def range' (P : Program) (h : Hp) (t : TypeId) (x : Value) : Option (Value × Hp) :=
  match P.underlying t, x with
  | some .string, .string s => match h.new (.sIter s 0) with
    | some (b, h) => some (.pointer (some ⟨b, 0, none⟩), h)
    | none => none
  | some (.map _ _), .map none => match h.new (.mIter none 0 [] 0) with
    | some (b, h) => some (.pointer (some ⟨b, 0, none⟩), h)
    | none => none
  | some (.map _ _), .map (some m) => match h.map? m with
    | some (_, clock) => match h.new (.mIter (some m) clock [] clock) with
      | some (b, h) => some (.pointer (some ⟨b, 0, none⟩), h)
      | none => none
    | none => none
  | _, _ => none

def next' (h : Hp) (it : Value) (isString : Bool) : Option (Value × Hp) :=
  match it with
  | .pointer (some a) => match a.off, h.objs.get a.block, isString with
    | 0, some (.sIter s pos), true => match Nat.blt pos s.data.toList.length with
      | true => match (Utf8.decode s pos) with
        | (c, w) => some (.tuple #[.bool true, .int .i64 pos, .int .i32 c], h.put a.block (.sIter s (pos + w)))
      | false => some (.tuple #[.bool false], h)
    | 0, some (.mIter none _ _ _), false => some (.tuple #[.bool false], h)
    | 0, some (.mIter (some m) since seen last), false => match h.map? m with
      | some (es, clock) => match seen.isEmpty || es.isEmpty || !(es.all fun e => Nat.ble last e.born) with
        | false => none
        | true =>
          let left := es.filter fun e => !(seen.any fun b => Nat.beq b e.born)
          let old := left.filter fun e => Nat.blt e.born since
          let new := left.filter fun e => Nat.ble since e.born
          match old, new with
          | [], [] => some (.tuple #[.bool false], h)
          | [e], [] => some (.tuple #[.bool true, e.key, e.val], h.put a.block (.mIter (some m) since (seen ++ [e.born]) clock))
          | _, _ => none
      | none => none
    | _, _, _ => none
  | _ => none

def entry' (h : Hp) (it : Value) : Option Value :=
  match it with
  | .pointer (some a) => match a.off, h.objs.get a.block with
    | 0, some (.mIter (some m) _ seen stepped) => match seen.getLast?, h.map? m with
      | some b, some (es, clock) => match Nat.beq clock stepped, bornAt b es 0 with
        | true, some i => match es[i]? with
          | some e => some (.tuple #[e.key, e.val])
          | none => none
        | _, _ => none
      | _, _ => none
    | _, _ => none
  | _ => none

def typeAssert' (P : Program) (x : Value) (asserted : TypeId) (ok : Bool) : Option Value :=
  match P.underlying asserted, x with
  | some (.interface want), .iface t v => match P.info? t with
    | some i => match want.toList.all fun (n, s) => i.methods.toList.any fun m => m.name == n && Nat.beq m.sig s with
      | true => some (if ok then .tuple #[.iface t v, .bool true] else .iface t v)
      | false => match ok, zero' P asserted with
        | true, some z => some (.tuple #[z, .bool false])
        | _, _ => none
    | none => none
  | some _, .nilIface => match ok, zero' P asserted with
    | true, some z => some (.tuple #[z, .bool false])
    | _, _ => none
  | some (.interface _), _ => none
  | some _, .iface t v => match Nat.beq t asserted with
    | true => some (if ok then .tuple #[v, .bool true] else v)
    | false => match ok, zero' P asserted with
      | true, some z => some (.tuple #[z, .bool false])
      | _, _ => none
  | _, _ => none

/-! ### builtins -/
def lenOf' : Value → Option Nat
  | .slice _ n _ => some n
  | .string s => some s.data.toList.length
  | _ => none

def first' (h : Hp) (size n : Nat) : Value → Option (List Value)
  | .slice (some a) _ _ => h.loads a (n * size)
  | .slice none _ _ => some []
  | .string s => some ((s.data.toList.take n).map fun b => .int .u8 b.toNat)
  | _ => none

def stays (b lo hi top : Nat) : List Mem :=
  match Nat.ble hi top with
  | true => [⟨b, lo, hi⟩]
  | false => []

/-- A row behind a part of row r (block a.block), with more: whether in its memory or in new memory the tape says. -/
def grow' (h : Hp) (e : TypeId) (sz : Nat) (a : Addr) (len n : Nat) (cells : List Value) (r : Row) : Option (Value × Hp) :=
  match Nat.blt h.next most, r.fam with
  | true, 0 => match Nat.blt h.nfam most with
    | true => some (.slice (some ⟨h.next, 0, none⟩) (len + n) (len + n),
        { objs := Tr.set depth (Tr.set depth h.objs a.block (.cells { r with fam := h.nfam })) h.next (.cells ⟨cells, e, h.nfam, r.base + a.off, true⟩)
          next := h.next + 1
          fams := Tr.set depth h.fams h.nfam (⟨h.next, r.base + a.off, r.base + a.off + cells.length⟩ ::
            stays a.block r.base (r.base + r.c.length) (r.base + a.off + len * sz))
          nfam := h.nfam + 1 })
    | false => none
  | true, f + 1 => match h.fams.get (f + 1) with
    | some l => some (.slice (some ⟨h.next, 0, none⟩) (len + n) (len + n),
        { objs := Tr.set depth h.objs h.next (.cells ⟨cells, e, f + 1, r.base + a.off, true⟩)
          next := h.next + 1
          fams := Tr.set depth h.fams (f + 1) (⟨h.next, r.base + a.off, r.base + a.off + cells.length⟩ :: l.filter fun m => Nat.ble m.hi (r.base + a.off + len * sz))
          nfam := h.nfam })
    | none => none
  | false, _ => none

def apd (h : Hp) (e : TypeId) (sz : Nat) (base : Option Addr) (len cap n : Nat) (new : List Value) : Option (Value × Hp) :=
  match Nat.ble (len + n) cap with
  | true => match base with
    | none => some (.slice none (len + n) cap, h)
    | some a => match h.stores (a.add (len * sz)) new with
      | some h => some (.slice (some a) (len + n) cap, h)
      | none => none
  | false => match base with
    | none => match len with
      | 0 => match h.grownRow e new with
        | some (a, h) => some (.slice (some a) n n, h)
        | none => none
      | _ + 1 => none
    | some a => match h.row a.block, h.loads a (len * sz) with
      | some r, some old => match Nat.beq r.e e with
        | true => grow' h e sz a len n (old ++ new) r
        | false => none
      | _, _ => none

def noInt (P : Program) : List TypeId → Bool
  | u :: _ => match P.underlying u with
    | some (.slice _) => true
    | some .string => true
    | _ => false
  | [] => true

def append' (P : Program) (h : Hp) (ts : List TypeId) (args : List Value) : Option (Value × Hp) :=
  match ts, args with
  | t :: xt, .slice base len cap :: x :: _ => match P.underlying t, noInt P xt with
    | some (.slice e), true => match P.info? e, zero' P e with
      | some i, some z => match Nat.beq z.cells.toList.length i.size, Nat.blt 0 i.size, Nat.ble i.bytes 100000, Nat.blt 0 i.bytes with
        | true, true, true, true => match lenOf' x with
          | some n => match first' h i.size n x, Nat.ble (len + n) 1000000, Nat.ble len cap with
            | some new, true, true => match new.all oneCell, Nat.beq new.length (n * i.size) with
              | true, true => apd h e i.size base len cap n new
              | _, _ => none
            | _, _, _ => none
          | none => none
        | _, _, _, _ => none
      | _, _ => none
    | _, _ => none
  | _, _ => none

def len' (P : Program) (h : Hp) (ts : List TypeId) (args : List Value) : Option Value :=
  match ts, args with
  | t :: _, x :: _ => match P.underlying t, x with
    | some .string, .string s => some (.int .i64 s.data.toList.length)
    | some (.array n _), _ => some (.int .i64 n)
    | some (.slice _), .slice _ n _ => some (.int .i64 n)
    | some (.map _ _), .map none => some (.int .i64 0)
    | some (.map _ _), .map (some r) => match h.map? r with
      | some (es, _) => some (.int .i64 es.length)
      | none => none
    | _, _ => none
  | _, _ => none

def cap' (P : Program) (h : Hp) (ts : List TypeId) (args : List Value) : Option Value :=
  match ts, args with
  | t :: _, x :: _ => match P.underlying t, x with
    | some (.slice _), .slice none _ n => some (.int .i64 n)
    | some (.slice _), .slice (some a) _ n => match h.row a.block with
      | some r => match r.grown with
        | false => some (.int .i64 n)
        | true => none
      | none => none
    | _, _ => none
  | _, _ => none

def copy' (P : Program) (h : Hp) (ts : List TypeId) (args : List Value) : Option (Value × Hp) :=
  match ts, args with
  | t :: _, d :: s :: _ => match P.underlying t, d, lenOf' s with
    | some (.slice e), .slice base dl _, some sl => match sizeOf' P e with
      | some z => match first' h z (Nat.min sl dl) s with
        | some cs => match base with
          | none => some (.int .i64 (Nat.min sl dl : Nat), h)
          | some a => match h.stores a cs with
            | some h => some (.int .i64 (Nat.min sl dl : Nat), h)
            | none => none
        | none => none
      | none => none
    | _, _, _ => none
  | _, _ => none

def mm (big : Bool) (x y : Int) : Int :=
  match big with
  | true => match intLt x y with
    | true => y
    | false => x
  | false => match intLt y x with
    | true => y
    | false => x

def minmax' (big : Bool) : Value → List Value → Option Value
  | x, [] => some x
  | .int k x, .int _ y :: r => minmax' big (.int k (mm big x y)) r
  | _, _ => none

def builtin' (P : Program) (h : Hp) (b : Builtin) (ts : List TypeId) (args : List Value) : Option (Value × Hp) :=
  match b with
  | .append => append' P h ts args
  | .copy => copy' P h ts args
  | .delete => match ts, args with
    | t :: _, m :: k :: _ => delete' P h t m k
    | _, _ => none
  | _ => none

/-! ### one operation -/
def withH (h : Hp) : Option Value → Option (Value × Hp)
  | some v => some (v, h)
  | none => none
def onlyH : Option Hp → Option (Value × Hp)
  | some h => some (undef', h)
  | none => none

/-- Operations that leave the heap alone. -/
def reader' (P : Program) (h : Hp) (a : A) (op : Op) : Option Value :=
  match op with
  | .move x | .assign x => a.ev x
  | .pick c x y => match a.ev c with
    | some (.bool true) => a.ev x
    | some (.bool false) => a.ev y
    | _ => none
  | .build t parts => match evPairs a parts.toList with
    | some l => build' P t l
    | none => none
  | .load t x => match a.ev x with
    | some (.pointer (some p)) => loadVar' P h t p
    | _ => none
  | .nilCheck x => match a.ev x with
    | some (.pointer (some p)) => some (.pointer (some p))
    | some (.func (.func f) x y) => some (.func (.func f) x y)
    | some (.iface t v) => some (.iface t v)
    | _ => none
  | .binOp op t x y _ => match a.ev x, a.ev y with
    | some v, some u => binOp' P h op t x y v u
    | _, _ => none
  | .unOp op _ x => match a.ev x with
    | some v => unOp' op v
    | none => none
  | .makeInterface t x => match a.ev x, P.underlying t with
    | some _, some (.interface _) => none
    | some v, some _ => some (.iface t v)
    | _, _ => none
  | .makeFunc fn first captured => match evList a first.toList, evList a captured.toList with
    | some l, some r => some (.func fn l.toArray r.toArray)
    | _, _ => none
  | .slice t x lo hi mx => match a.ev x, evList a (lo.toList ++ hi.toList ++ mx.toList) with
    | some v, some _ => slice' P h t v (lo.bind a.ev) (hi.bind a.ev) (mx.bind a.ev)
    | _, _ => none
  | .fieldAddr t x f => match a.ev x with
    | some v => fieldAddr' P t v f
    | none => none
  | .field t x f => match a.ev x, P.underlying t with
    | some (.agg cs), some (.struct fields) => match fields.toList[f]? with
      | some f => part P f.type cs.toList f.offset
      | none => none
    | _, _ => none
  | .indexAddr t x i => match a.ev x, a.ev i with
    | some v, some u => indexAddr' P t v u
    | _, _ => none
  | .index t x i => match a.ev x, a.ev i with
    | some v, some u => index' P t v u
    | _, _ => none
  | .lookup t x i ok => match a.ev x, a.ev i with
    | some v, some u => lookup' P h t v u ok
    | _, _ => none
  | .extract x i => match a.ev x with
    | some (.tuple vs) => vs.toList[i]?
    | _ => none
  | .typeAssert x _ t ok => match a.ev x with
    | some v => typeAssert' P v t ok
    | none => none
  | .entry x => match a.ev x with
    | some v => entry' h v
    | none => none
  | .call c => match c.callee with
    | .builtin .len => match evList a c.args.toList with
      | some l => len' P h c.argTypes.toList l
      | none => none
    | .builtin .cap => match evList a c.args.toList with
      | some l => cap' P h c.argTypes.toList l
      | none => none
    | .builtin .max => match evList a c.args.toList with
      | some (x :: r) => minmax' true x r
      | _ => none
    | .builtin .min => match evList a c.args.toList with
      | some (x :: r) => minmax' false x r
      | _ => none
    | _ => none
  | _ => none

def isReader : Op → Bool
  | .move _ | .assign _ | .pick .. | .build .. | .load .. | .nilCheck _ | .binOp .. | .unOp .. | .makeInterface .. | .makeFunc .. | .slice .. | .fieldAddr .. | .field .. | .indexAddr .. | .index .. | .lookup .. | .extract .. | .typeAssert .. | .entry _ => true
  | .call { callee := .builtin b, .. } => match b with
    | .len | .cap | .max | .min => true
    | _ => false
  | _ => false

/-- Operations that make new memory out of the frame alone. -/
def isMaker : Op → Bool
  | .alloc _ | .box .. | .buildSlice .. | .makeMap .. | .makeSlice .. => true
  | _ => false

/-- What such an operation makes, and the value that names it. -/
def maker' (P : Program) (a : A) (op : Op) : Option (CObj × (Nat → Value)) :=
  match op with
  | .alloc e => match zero' P e with
    | some z => some (.cells ⟨z.cells.toList, e, 0, 0, false⟩, fun b => .pointer (some ⟨b, 0, none⟩))
    | none => none
  | .box e x => match a.ev x with
    | some v => some (.cells ⟨v.cells.toList, e, 0, 0, false⟩, fun b => .pointer (some ⟨b, 0, none⟩))
    | none => none
  | .buildSlice t n parts => match evPairs a parts.toList with
    | some l => buildRow' P t n l
    | none => none
  | .makeMap _ none => some (.map [] 0, fun b => .map (some b))
  | .makeMap t (some x) => match a.ev x, P.underlying t with
    | some (.int _ _), some (.map _ _) => some (.map [] 0, fun b => .map (some b))
    | _, _ => none
  | .makeSlice t l c => match a.ev l, a.ev c with
    | some x, some y => makeRow' P t x y
    | _, _ => none
  | _ => none

/-- Operations that change the heap, calls of functions aside. -/
def writer' (P : Program) (h : Hp) (a : A) (op : Op) : Option (Value × Hp) :=
  match op with
  | .alloc _ | .box .. | .buildSlice .. | .makeMap .. | .makeSlice .. => match maker' P a op with
    | some (o, f) => match h.new o with
      | some (b, h) => some (f b, h)
      | none => none
    | none => none
  | .store t x y => match a.ev x, a.ev y with
    | some (.pointer (some p)), some v => onlyH (storeVar' P h t p v)
    | _, _ => none
  | .mapUpdate t m k v | .insert t m k v => match a.ev m, a.ev k, a.ev v with
    | some m, some k, some v => onlyH (mapUpdate' P h t m k v)
    | _, _, _ => none
  | .mapEntry t m k => match a.ev m, a.ev k with
    | some m, some k => mapEntry' P h t m k
    | _, _ => none
  | .entryStore _ m s v => match a.ev m, a.ev s, a.ev v with
    | some m, some s, some v => onlyH (entryStore' h m s v)
    | _, _, _ => none
  | .range t x => match a.ev x with
    | some v => range' P h t v
    | none => none
  | .next it s => match a.ev it with
    | some v => next' h v s
    | none => none
  | .convert s t x => match a.ev x with
    | some v => convert' P h s t v
    | none => none
  | .call c => match c.callee with
    | .builtin b => match evList a c.args.toList with
      | some l => builtin' P h b c.argTypes.toList l
      | none => none
    | _ => none
  | _ => none

/-- The function that a call enters, and its arguments. -/
def callee' (a : A) (op : Op) : Option (FuncId × List Value) :=
  match op with
  | .call c => match c.callee with
    | .value f => match a.ev f, evList a c.args.toList with
      | some (.func (.func g) first captured), some l => some (g, first.toList ++ l ++ captured.toList)
      | _, _ => none
    | _ => none
  | _ => none

abbrev Caller := FuncId → List Value → Hp → Option (Value × Hp)

def oper' (P : Program) (C : Caller) (h : Hp) (a : A) (op : Op) : Option (Value × Hp) :=
  match isReader op with
  | true => withH h (reader' P h a op)
  | false => match callee' a op with
    | some (f, args) => C f args h
    | none => writer' P h a op

/-! ### regions -/
def wanted' (ops : List Oper) (a : A) (o : Oper) : Bool :=
  match o.guard with
  | none => true
  | some (j, want) => match ops[j]? with
    | none => false
    | some p => match p.dst with
      | none => false
      | some d => match a.get d with
        | .bool b => b == want
        | _ => false

def step' (P : Program) (C : Caller) (ops : List Oper) (o : Oper) (a : A) (h : Hp) : Option (A × Hp) :=
  match wanted' ops a o with
  | true => match oper' P C h a o.op with
    | some (v, h) => match a.put o.dst v with
      | some a => some (a, h)
      | none => none
    | none => none
  | false => match a.put o.dst undef' with
    | some a => some (a, h)
    | none => none

/-- In the text's order. -/
def ops' (P : Program) (C : Caller) (ops : List Oper) : List Oper → A → Hp → Option (A × Hp)
  | [], a, h => some (a, h)
  | o :: r, a, h => match step' P C ops o a h with
    | some (a, h) => ops' P C ops r a h
    | none => none

/-- Whom an operation waits for. -/
def predsRow (acc : List (List Nat)) : List Edge → List Nat
  | [] => []
  | e :: l => match Region.binds .any e with
    | true => e.on :: ((acc[e.on]?).getD []) ++ predsRow acc l
    | false => predsRow acc l
def predsGo (acc : List (List Nat)) : List Oper → List (List Nat)
  | [] => acc
  | o :: r => predsGo (acc ++ [predsRow acc o.after.toList]) r
def preds (ops : List Oper) : List (List Nat) := predsGo [] ops
def predsOf (ps : List (List Nat)) (i : Nat) : List Nat := (ps[i]?).getD []

def has (l : List Nat) (i : Nat) : Bool := l.any (Nat.beq i)

def edgesOk (i : Nat) : List Edge → Bool
  | [] => true
  | e :: l => match Region.binds .any e with
    | true => match Nat.blt e.on i with
      | true => edgesOk i l
      | false => false
    | false => edgesOk i l

/-- Two operations that touch one place wait for each other, and so do two that change the heap. -/
def isReader2 (m : Bool) (op : Op) : Bool :=
  match isReader op with
  | true => true
  | false => match m with
    | true => isMaker op
    | false => false

def pairOk (m : Bool) (arr : Array Oper) (ps : List Nat) (y : Oper) : Nat → List Oper → Bool
  | _, [] => true
  | i, x :: l => match has ps i with
    | true => pairOk m arr ps y (i + 1) l
    | false => match isReader2 m x.op || isReader2 m y.op, x.apart arr y, y.apart arr x with
      | true, true, true => pairOk m arr ps y (i + 1) l
      | _, _, _ => false

def orderGo (m : Bool) (ops : List Oper) (arr : Array Oper) (ps : List (List Nat)) : Nat → List Oper → Bool
  | _, [] => true
  | j, y :: r => match edgesOk j y.after.toList, pairOk m arr (predsOf ps j) y 0 (ops.take j) with
    | true, true => orderGo m ops arr ps (j + 1) r
    | _, _ => false

def orderOk (m : Bool) (ops : List Oper) : Bool := orderGo m ops ops.toArray (preds ops) 0 ops

def sameV : Nat → Value → Value → Bool
  | _, .bool a, .bool b => a == b
  | _, .int j a, .int k b => kindEq j k && intEq a b
  | _, .string a, .string b => bytesEq a.data.toList b.data.toList
  | _, .nilIface, .nilIface => true
  | _, .nilFunc, .nilFunc => true
  | _, .pointer none, .pointer none => true
  | _, .pointer (some a), .pointer (some b) => Nat.beq a.block b.block && Nat.beq a.off b.off && a.spot.isNone && b.spot.isNone
  | _, .slice none n c, .slice none m d => Nat.beq n m && Nat.beq c d
  | _, .slice (some a) n c, .slice (some b) m d => Nat.beq a.block b.block && Nat.beq a.off b.off && a.spot.isNone && b.spot.isNone && Nat.beq n m && Nat.beq c d
  | _, .map none, .map none => true
  | _, .map (some a), .map (some b) => Nat.beq a b
  | n + 1, .func (.func f) x y, .func (.func g) z w => Nat.beq f g && Nat.beq x.toList.length z.toList.length && Nat.beq y.toList.length w.toList.length && (x.toList.zip z.toList).all (fun (p, q) => sameV n p q) && (y.toList.zip w.toList).all (fun (p, q) => sameV n p q)
  | n + 1, .iface t v, .iface u w => Nat.beq t u && sameV n v w
  | n + 1, .agg a, .agg b => Nat.beq a.toList.length b.toList.length && (a.toList.zip b.toList).all fun (x, y) => sameV n x y
  | n + 1, .tuple a, .tuple b => Nat.beq a.toList.length b.toList.length && (a.toList.zip b.toList).all fun (x, y) => sameV n x y
  | _, _, _ => false

def sameVs : List Value → List Value → Bool
  | [], [] => true
  | x :: l, y :: m => match sameV 9 x y with
    | true => sameVs l m
    | false => false
  | _, _ => false

/-- What was laid ahead is what was made. -/
def laidAs : CObj → CObj → Bool
  | .cells ⟨c, e, 0, 0, false⟩, .cells ⟨d, u, 0, 0, false⟩ => match Nat.beq e u with
    | true => sameVs c d
    | false => false
  | .map [] 0, .map [] 0 => true
  | _, _ => false

/-- Readers, and makers of what is laid ahead at place g. -/
def reader2' (P : Program) (g : Nat) (h : Hp) (a : A) (op : Op) : Option Value :=
  match isReader op with
  | true => reader' P h a op
  | false => match maker' P a op with
    | some (o, f) => match h.objs.get g with
      | some o' => match laidAs o o' with
        | true => some (f g)
        | false => none
      | none => none
    | none => none

def oper2' (P : Program) (C : Caller) (m : Bool) (g : Nat) (h : Hp) (a : A) (op : Op) : Option (Value × Hp) :=
  match isReader2 m op with
  | true => withH h (reader2' P g h a op)
  | false => oper' P C h a op

def step2' (P : Program) (C : Caller) (m : Bool) (ops : List Oper) (g : Nat) (o : Oper) (a : A) (h : Hp) : Option (A × Hp) :=
  match wanted' ops a o with
  | true => match oper2' P C m g h a o.op with
    | some (v, h) => match a.put o.dst v with
      | some a => some (a, h)
      | none => none
    | none => none
  | false => match a.put o.dst undef' with
    | some a => some (a, h)
    | none => none

/-- The heaps ahead of each operation that changes it, and the last one: what it is told of each is where it stands. -/
def heaps (P : Program) (C : Caller) (m : Bool) (base : Nat) (ops : List Oper) : Nat → List Oper → A → Hp → Option (List (Nat × Hp))
  | i, [], _, h => some [(i, h)]
  | i, o :: r, a, h => match step2' P C m ops (base + i) o a h with
    | some (a', h') => match heaps P C m base ops (i + 1) r a' h' with
      | some l => match isReader2 m o.op with
        | true => some l
        | false => some ((i, h) :: l)
      | none => none
    | none => none

/-- Operation i, which leaves the heap alone, answers alike at whatever heap it may meet. e: the operation that changes that heap next. -/
def stable (P : Program) (g : Nat) (a : A) (op : Op) (v : Value) (i : Nat) (ps : List (List Nat)) : List (Nat × Hp) → Bool
  | [] => true
  | (e, h) :: r => match has (predsOf ps i) e with
    | true => stable P g a op v i ps r
    | false => match reader2' P g h a op with
      | some u => match sameV 9 v u with
        | true => match has (predsOf ps e) i with
          | true => true
          | false => stable P g a op v i ps r
        | false => false
      | none => false

def check (P : Program) (C : Caller) (m : Bool) (base : Nat) (ops : List Oper) (ps : List (List Nat)) (gs : List (Nat × Hp)) : Nat → List Oper → A → Hp → Option (A × Hp)
  | _, [], a, h => some (a, h)
  | i, o :: r, a, h => match step2' P C m ops (base + i) o a h with
    | none => none
    | some (a', h') => match isReader2 m o.op, wanted' ops a o with
      | true, true => match reader2' P (base + i) h a o.op with
        | some v => match stable P (base + i) a o.op v i ps gs with
          | true => check P C m base ops ps gs (i + 1) r a' h'
          | false => none
        | none => none
      | _, _ => check P C m base ops ps gs (i + 1) r a' h'

/-- What the makers of a region will make, as far as it can be told ahead (a guess: it is looked at again). -/
def guess (P : Program) (C : Caller) (calls : Bool) (base : Nat) (ops : List Oper) : Nat → List Oper → A → Hp → List (Nat × CObj)
  | _, [], _, _ => []
  | i, o :: r, a, h => match wanted' ops a o, isMaker o.op with
    | true, true => match maker' P a o.op with
      | some (ob, f) => match a.put o.dst (f (base + i)) with
        | some a => (i, ob) :: guess P C calls base ops (i + 1) r a (h.put (base + i) ob)
        | none => []
      | none => guess P C calls base ops (i + 1) r a h
    | true, false => match isReader o.op || calls with
      | true => match step' P C ops o a h with
        | some (a, h) => guess P C calls base ops (i + 1) r a h
        | none => guess P C calls base ops (i + 1) r a h
      | false => guess P C calls base ops (i + 1) r a h
    | false, _ => match a.put o.dst undef' with
      | some a => guess P C calls base ops (i + 1) r a h
      | none => []

def famFree : CObj → Bool
  | .cells r => Nat.beq r.fam 0
  | _ => true

def layAll (base k : Nat) : List (Nat × CObj) → Hp → Hp
  | [], h => h
  | (i, o) :: l, h => match Nat.blt i k, famFree o with
    | true, true => layAll base k l (h.put (base + i) o)
    | _, _ => layAll base k l h

def makersWaitGo (ops : List Oper) : List (List Nat) → List Oper → Bool
  | p :: ps, o :: r => match isMaker o.op with
    | true => (p.any fun j => match ops[j]? with
      | some x => !isReader2 true x.op
      | none => false) || makersWaitGo ops ps r
    | false => makersWaitGo ops ps r
  | _, _ => false
/-- A maker waits for an operation that is no reader and no maker. -/
def makersWait (ops : List Oper) (ps : List (List Nat)) : Bool := makersWaitGo ops ps ops

def drawn (P : Program) (C : Caller) (m : Bool) (base : Nat) (ops : List Oper) (a : A) (h : Hp) : Option (A × Hp) :=
  match heaps P C m base ops 0 ops a h with
  | some gs => check P C m base ops (preds ops) gs 0 ops a h
  | none => none

/-- A region whose order is drawn. -/
def draw' (P : Program) (C : Caller) (ops : List Oper) (a : A) (h : Hp) : Option (A × Hp) :=
  match orderOk false ops with
  | true => drawn P C false 0 ops a h
  | false => match orderOk true ops, Nat.ble (h.next + ops.length) most with
    | true, true => drawn P C true h.next ops a
        (layAll h.next ops.length (guess P C (makersWait ops (preds ops)) h.next ops 0 ops a { h with next := h.next + ops.length }) { h with next := h.next + ops.length })
    | _, _ => none

/-! ### code -/
inductive Ex where
  | normal
  | exit (id : Nat)
  | ret

def code' (P : Program) (C : Caller) : Nat → Code → A → Hp → Option (Ex × A × Hp)
  | 0, _, _, _ => none
  | n + 1, c, a, h => match c with
    | .skip => some (.normal, a, h)
    | .label _ => some (.normal, a, h)
    | .region _ ops false => match ops' P C ops.toList ops.toList a h with
      | some (a, h) => some (.normal, a, h)
      | none => none
    | .region _ ops true => match draw' P C ops.toList a h with
      | some (a, h) => some (.normal, a, h)
      | none => none
    | .seq x y => match code' P C n x a h with
      | some (.normal, a, h) => code' P C n y a h
      | r => r
    | .cond x t e => match a.ev x with
      | some (.bool true) => code' P C n t a h
      | some (.bool false) => code' P C n e a h
      | _ => none
    | .block id b => match code' P C n b a h with
      | some (.exit j, a, h) => match Nat.beq j id with
        | true => some (.normal, a, h)
        | false => some (.exit j, a, h)
      | r => r
    | .loop b => match code' P C n b a h with
      | some (.normal, a, h) => code' P C n (.loop b) a h
      | r => r
    | .scope b => code' P C n b a h
    | .exit id => some (.exit id, a, h)
    | .ret => some (.ret, a, h)
    | _ => none

def argsOf : List Value → Nat → Tr Value → Tr Value
  | [], _, t => t
  | v :: r, i, t => argsOf r (i + 1) (Tr.set depth t i v)

def result' (P : Program) (h : Hp) (a : A) : ResultVar → Option Value
  | .tmp t => some (a.get t)
  | .cell t ty => match a.get t with
    | .pointer (some p) => loadVar' P h ty p
    | _ => none

def results' (P : Program) (h : Hp) (a : A) : List ResultVar → Option (List Value)
  | [] => some []
  | r :: l => match result' P h a r, results' P h a l with
    | some v, some vs => some (v :: vs)
    | _, _ => none

def call' (P : Program) : Nat → Caller
  | 0, _, _, _ => none
  | n + 1, f, args, h => match P.funcs[f]? with
    | none => none
    | some fn => match fn.body with
      | none => none
      | some c => match Nat.ble args.length fn.ntmps, Nat.blt fn.ntmps most, fn.name == "runtime.NumGoroutine" with
        | true, true, false => match code' P (call' P n) 20000 c ⟨argsOf args 0 .lf, fn.ntmps⟩ h with
          | some (.exit _, _, _) => none
          | some (_, a, h) => match results' P h a fn.results.toList with
            | some [v] => some (v, h)
            | some vs => some (.tuple vs.toArray, h)
            | none => none
          | none => none
        | _, _, _ => none

end Go.Ev

namespace Go.Ev
open Go.RowKit

/-! ### trees -/
theorem beq0 (n : Nat) : Nat.beq n 0 = decide (n = 0) := by
  cases n <;> simp [Nat.beq]

theorem Tr.get_lf {α : Type} (k : Nat) : (Tr.lf : Tr α).get k = none := by cases k <;> rfl
theorem Tr.get_nd_zero {α : Type} (o : Option α) (l r : Tr α) : (Tr.nd o l r).get 0 = o := rfl
theorem Tr.get_nd_succ {α : Type} (o : Option α) (l r : Tr α) (k : Nat) : (Tr.nd o l r).get (k + 1) = if k % 2 = 0 then l.get (k / 2) else r.get (k / 2) := by
  show (match Nat.beq (k % 2) 0 with | true => l.get (k / 2) | false => r.get (k / 2)) = _
  rw [beq0]
  by_cases h : k % 2 = 0 <;> simp [h]

theorem Tr.get_set {α : Type} : ∀ (f : Nat) (t : Tr α) (k : Nat) (v : α) (j : Nat), k + 1 < 2 ^ f → (Tr.set f t k v).get j = if j = k then some v else t.get j
  | 0, t, k, v, j, h => by simp at h
  | f + 1, t, k, v, j, h => by
    have ih := fun (t : Tr α) (k' j' : Nat) (hk : k' + 1 < 2 ^ f) => Tr.get_set f t k' v j' hk
    cases k with
    | zero =>
      cases t with
      | lf => cases j with
        | zero => rfl
        | succ j => simp [Tr.set, Tr.get_nd_succ, Tr.get_lf]
      | nd o l r => cases j with
        | zero => rfl
        | succ j => simp [Tr.set, Tr.get_nd_succ]
    | succ k =>
      have hk : k / 2 + 1 < 2 ^ f := by rw [Nat.pow_succ] at h; omega
      cases t with
      | lf =>
        simp only [Tr.set, beq0]
        by_cases hp : k % 2 = 0
        · simp only [hp, decide_true]
          cases j with
          | zero => simp [Tr.get_nd_zero, Tr.get_lf]
          | succ j =>
            rw [Tr.get_nd_succ, ih _ _ _ hk]
            by_cases hj : j % 2 = 0
            · rw [if_pos hj]
              by_cases e : j / 2 = k / 2
              · rw [if_pos e, if_pos (by omega)]
              · rw [if_neg e, if_neg (by omega), Tr.get_lf, Tr.get_lf]
            · rw [if_neg hj, if_neg (by omega), Tr.get_lf, Tr.get_lf]
        · simp only [hp, decide_false]
          cases j with
          | zero => simp [Tr.get_nd_zero, Tr.get_lf]
          | succ j =>
            rw [Tr.get_nd_succ, ih _ _ _ hk]
            by_cases hj : j % 2 = 0
            · rw [if_pos hj, if_neg (by omega), Tr.get_lf, Tr.get_lf]
            · rw [if_neg hj]
              by_cases e : j / 2 = k / 2
              · rw [if_pos e, if_pos (by omega)]
              · rw [if_neg e, if_neg (by omega), Tr.get_lf, Tr.get_lf]
      | nd o l r =>
        simp only [Tr.set, beq0]
        by_cases hp : k % 2 = 0
        · simp only [hp, decide_true]
          cases j with
          | zero => simp [Tr.get_nd_zero]
          | succ j =>
            rw [Tr.get_nd_succ, ih _ _ _ hk]
            by_cases hj : j % 2 = 0
            · rw [if_pos hj]
              by_cases e : j / 2 = k / 2
              · rw [if_pos e, if_pos (by omega)]
              · rw [if_neg e, if_neg (by omega), Tr.get_nd_succ, if_pos hj]
            · rw [if_neg hj, if_neg (by omega), Tr.get_nd_succ, if_neg hj]
        · simp only [hp, decide_false]
          cases j with
          | zero => simp [Tr.get_nd_zero]
          | succ j =>
            rw [Tr.get_nd_succ, ih _ _ _ hk]
            by_cases hj : j % 2 = 0
            · rw [if_pos hj, if_neg (by omega), Tr.get_nd_succ, if_pos hj]
            · rw [if_neg hj]
              by_cases e : j / 2 = k / 2
              · rw [if_pos e, if_pos (by omega)]
              · rw [if_neg e, if_neg (by omega), Tr.get_nd_succ, if_neg hj]

theorem Tr.get_set' {α : Type} (t : Tr α) (k : Nat) (v : α) (j : Nat) (h : k < most + 1) : (Tr.set depth t k v).get j = if j = k then some v else t.get j :=
  Tr.get_set _ _ _ _ _ (by
    unfold most at h
    show _ < 2 ^ 21
    have : (2 : Nat) ^ 21 = 2097152 := by decide
    omega)

/-! ### where a block of the heap lies in the machine's memory -/
structure Img where
  /-- the machine's block -/
  b : Nat
  /-- where the row begins in it -/
  s : Nat
  /-- how many of its cells lie from there on -/
  m : Nat
  /-- an element's cells -/
  z : Nat
  /-- slices' capacities are known -/
  ex : Bool

abbrev Rho := Nat → Option Img
def Rho.le (ρ ρ' : Rho) : Prop := ∀ b i, ρ b = some i → ρ' b = some i
theorem Rho.le_refl (ρ : Rho) : ρ.le ρ := fun _ _ h => h
theorem Rho.le_trans {a b c : Rho} (h : a.le b) (k : b.le c) : a.le c := fun _ _ e => k _ _ (h _ _ e)

def AR (ρ : Rho) (a a' : Addr) (i : Img) : Prop := a.spot = none ∧ ρ a.block = some i ∧ a' = ⟨i.b, i.s + a.off, none⟩
def CapOk (i : Img) (off c c' : Nat) : Prop := c' = c ∨ (i.ex = false ∧ c ≤ c' ∧ off + c' * i.z ≤ i.m)

mutual
/-- A value here, and the machine's. -/
inductive VR (ρ : Rho) : Value → Value → Prop
  | bool (b : Bool) : VR ρ (.bool b) (.bool b)
  | int (k : IntKind) (n : Int) : VR ρ (.int k n) (.int k n)
  | float (k : FloatKind) (n : Nat) : VR ρ (.float k n) (.float k n)
  | complex (k : FloatKind) (a b : Nat) : VR ρ (.complex k a b) (.complex k a b)
  | string (s : ByteArray) : VR ρ (.string s) (.string s)
  | ptrNil : VR ρ (.pointer none) (.pointer none)
  | ptr {a a' : Addr} {i : Img} (h : AR ρ a a' i) : VR ρ (.pointer (some a)) (.pointer (some a'))
  | slNil : VR ρ (.slice none 0 0) (.slice none 0 0)
  | sl {a a' : Addr} {i : Img} {n c c' : Nat} (h : AR ρ a a' i) (hc : CapOk i a.off c c') : VR ρ (.slice (some a) n c) (.slice (some a') n c')
  | slZero (a a' : Addr) {i : Img} (h : ρ a.block = some i) : VR ρ (.slice (some a) 0 0) (.slice (some a') 0 0)
  | mapNil : VR ρ (.map none) (.map none)
  | map {r : Nat} {i : Img} (h : ρ r = some i) : VR ρ (.map (some r)) (.map (some i.b))
  | chanNil : VR ρ (.chan none) (.chan none)
  | func {fn : Fn} {f c f' c' : Array Value} (h : VRs ρ f.toList f'.toList) (k : VRs ρ c.toList c'.toList) : VR ρ (.func fn f c) (.func fn f' c')
  | nilFunc : VR ρ .nilFunc .nilFunc
  | iface {t : TypeId} {v v' : Value} (h : VR ρ v v') : VR ρ (.iface t v) (.iface t v')
  | nilIface : VR ρ .nilIface .nilIface
  | agg {c c' : Array Value} (h : VRs ρ c.toList c'.toList) : VR ρ (.agg c) (.agg c')
  | tuple {c c' : Array Value} (h : VRs ρ c.toList c'.toList) : VR ρ (.tuple c) (.tuple c')
inductive VRs (ρ : Rho) : List Value → List Value → Prop
  | nil : VRs ρ [] []
  | cons {v v' : Value} {l l' : List Value} (h : VR ρ v v') (k : VRs ρ l l') : VRs ρ (v :: l) (v' :: l')
end

theorem AR.mono {ρ ρ' : Rho} (hr : ρ.le ρ') {a a' : Addr} {i : Img} (h : AR ρ a a' i) : AR ρ' a a' i := ⟨h.1, hr _ _ h.2.1, h.2.2⟩

mutual
theorem VR.mono {ρ ρ' : Rho} (hr : ρ.le ρ') : ∀ {v v' : Value}, VR ρ v v' → VR ρ' v v'
  | _, _, .bool b => .bool b
  | _, _, .int k n => .int k n
  | _, _, .float k n => .float k n
  | _, _, .complex k a b => .complex k a b
  | _, _, .string s => .string s
  | _, _, .ptrNil => .ptrNil
  | _, _, .ptr h => .ptr (h.mono hr)
  | _, _, .slNil => .slNil
  | _, _, .sl h hc => .sl (h.mono hr) hc
  | _, _, .slZero a a' h => .slZero a a' (hr _ _ h)
  | _, _, .mapNil => .mapNil
  | _, _, .map h => .map (hr _ _ h)
  | _, _, .chanNil => .chanNil
  | _, _, .func h k => .func (VRs.mono hr h) (VRs.mono hr k)
  | _, _, .nilFunc => .nilFunc
  | _, _, .iface h => .iface (VR.mono hr h)
  | _, _, .nilIface => .nilIface
  | _, _, .agg h => .agg (VRs.mono hr h)
  | _, _, .tuple h => .tuple (VRs.mono hr h)
theorem VRs.mono {ρ ρ' : Rho} (hr : ρ.le ρ') : ∀ {l l' : List Value}, VRs ρ l l' → VRs ρ' l l'
  | _, _, .nil => .nil
  | _, _, .cons h k => .cons (VR.mono hr h) (VRs.mono hr k)
end

theorem VRs.length {ρ : Rho} : ∀ {l l' : List Value}, VRs ρ l l' → l'.length = l.length
  | _, _, .nil => rfl
  | _, _, .cons _ k => by simp [VRs.length k]
theorem VRs.get {ρ : Rho} : ∀ {l l' : List Value}, VRs ρ l l' → ∀ {k : Nat} {v : Value}, l[k]? = some v → ∃ v', l'[k]? = some v' ∧ VR ρ v v'
  | _, _, .nil, k, v, h => by simp at h
  | _, _, .cons (v' := v') h0 r, 0, v, h => by simp at h; subst h; exact ⟨v', rfl, h0⟩
  | _, _, .cons h0 r, k + 1, v, h => by simp at h; simpa using VRs.get r h
theorem VRs.append {ρ : Rho} : ∀ {l l' m m' : List Value}, VRs ρ l l' → VRs ρ m m' → VRs ρ (l ++ m) (l' ++ m')
  | _, _, _, _, .nil, k => k
  | _, _, _, _, .cons h r, k => .cons h (VRs.append r k)
theorem VRs.of_get {ρ : Rho} : ∀ {l l' : List Value}, l'.length = l.length → (∀ (k : Nat) (v : Value), l[k]? = some v → ∃ v', l'[k]? = some v' ∧ VR ρ v v') → VRs ρ l l'
  | [], [], _, _ => .nil
  | [], _ :: _, hl, _ => by simp at hl
  | _ :: _, [], hl, _ => by simp at hl
  | x :: l, y :: l', hl, h => by
    obtain ⟨v', h1, h2⟩ := h 0 x rfl
    simp at h1
    subst h1
    exact .cons h2 (VRs.of_get (by simpa using hl) fun k v hk => by simpa using h (k + 1) v (by simpa using hk))
theorem VRs.drop {ρ : Rho} : ∀ {l l' : List Value} (n : Nat), VRs ρ l l' → VRs ρ (l.drop n) (l'.drop n)
  | _, _, 0, h => by simpa using h
  | _, _, n + 1, .nil => by simpa using VRs.nil
  | _, _, n + 1, .cons _ k => by simpa using VRs.drop n k
theorem VRs.take {ρ : Rho} : ∀ {l l' : List Value} (n : Nat), VRs ρ l l' → VRs ρ (l.take n) (l'.take n)
  | _, _, 0, h => by simpa using VRs.nil
  | _, _, n + 1, .nil => by simpa using VRs.nil
  | _, _, n + 1, .cons h k => by simpa using VRs.cons h (VRs.take n k)

theorem VR.oneCell {ρ : Rho} {v v' : Value} (h : VR ρ v v') : oneCell v' = oneCell v := by cases h <;> rfl
theorem oneCell_eq (v : Value) : oneCell v = v.oneCell' := by cases v <;> rfl
theorem VR.cells {ρ : Rho} {v v' : Value} (h : VR ρ v v') : VRs ρ v.cells.toList v'.cells.toList := by
  have h0 := h
  cases h with
  | agg h => exact h
  | _ => exact .cons h0 .nil

/-- No address in it: it is itself. -/
theorem plain_VR {ρ : Rho} : ∀ (n : Nat) (v : Value), plain n v = true → VR ρ v v := by
  intro n
  induction n with
  | zero =>
    intro v h
    cases v with
    | bool b => exact .bool b
    | int k n => exact .int k n
    | float k n => exact .float k n
    | complex k a b => exact .complex k a b
    | string s => exact .string s
    | pointer a => cases a with
      | none => exact .ptrNil
      | some a => simp [plain] at h
    | slice a n c => cases a with
      | none => cases n <;> cases c <;> first | exact .slNil | simp [plain] at h
      | some a => simp [plain] at h
    | map r => cases r with
      | none => exact .mapNil
      | some r => simp [plain] at h
    | chan r => cases r with
      | none => exact .chanNil
      | some r => simp [plain] at h
    | func => simp [plain] at h
    | nilFunc => exact .nilFunc
    | iface => simp [plain] at h
    | nilIface => exact .nilIface
    | agg => simp [plain] at h
    | tuple => simp [plain] at h
  | succ n ih =>
    have all : ∀ l : List Value, l.all (plain n) = true → VRs ρ l l := by
      intro l
      induction l with
      | nil => exact fun _ => .nil
      | cons x l ihl =>
        intro h
        simp only [List.all_cons, Bool.and_eq_true] at h
        exact .cons (ih x h.1) (ihl h.2)
    intro v h
    cases v with
    | bool b => exact .bool b
    | int k n => exact .int k n
    | float k n => exact .float k n
    | complex k a b => exact .complex k a b
    | string s => exact .string s
    | pointer a => cases a with
      | none => exact .ptrNil
      | some a => simp [plain] at h
    | slice a n c => cases a with
      | none => cases n <;> cases c <;> first | exact .slNil | simp [plain] at h
      | some a => simp [plain] at h
    | map r => cases r with
      | none => exact .mapNil
      | some r => simp [plain] at h
    | chan r => cases r with
      | none => exact .chanNil
      | some r => simp [plain] at h
    | func => simp [plain] at h
    | nilFunc => exact .nilFunc
    | iface t v => exact .iface (ih v (by simpa [plain] using h))
    | nilIface => exact .nilIface
    | agg c => exact .agg (all _ (by simpa [plain] using h))
    | tuple c => exact .tuple (all _ (by simpa [plain] using h))

/-! ### the heaps -/
inductive MRs (ρ : Rho) : List MapEntry → List MapEntry → Prop
  | nil : MRs ρ [] []
  | cons {e e' : MapEntry} {l l' : List MapEntry} (hk : VR ρ e.key e'.key) (hv : VR ρ e.val e'.val) (hb : e'.born = e.born) (k : MRs ρ l l') : MRs ρ (e :: l) (e' :: l')

theorem MRs.mono {ρ ρ' : Rho} (hr : ρ.le ρ') : ∀ {l l' : List MapEntry}, MRs ρ l l' → MRs ρ' l l'
  | _, _, .nil => .nil
  | _, _, .cons hk hv hb k => .cons (hk.mono hr) (hv.mono hr) hb (MRs.mono hr k)

def RowR (P : Program) (ρ : Rho) (i : Img) (r : Row) (arr : Array Value) (e : TypeId) (fr : Nat × Nat) : Prop :=
  e = r.e ∧ i.s + r.c.length ≤ arr.size ∧ i.m = arr.size - i.s ∧
  (∀ k v, r.c[k]? = some v → ∃ v', arr[i.s + k]? = some v' ∧ VR ρ v v') ∧
  (∀ k, k < arr.size → (fr.1 ≤ k && k < fr.2) = false) ∧
  (r.grown = false → i.ex = true ∧ fr = (0, 0)) ∧
  (i.ex = false → P.cellsOf r.e = i.z)

def ObjR (P : Program) (ρ : Rho) (i : Img) : CObj → Obj → Prop
  | .cells r, .cells arr e fr => RowR P ρ i r arr e fr
  | .map es k, .map es' k' => MRs ρ es es'.toList ∧ k' = k
  | .sIter s p, .stringIter s' p' => s' = s ∧ p' = p ∧ i.s = 0
  | .mIter m since seen st, .mapIter m' since' seen' st' => (match m, m' with
      | none, none => True
      | some m, some m' => ∃ j, ρ m = some j ∧ m' = j.b
      | _, _ => False) ∧ since' = since ∧ seen'.toList = seen ∧ st' = st ∧ i.s = 0
  | _, _ => False

def Hp.alive (h : Hp) (b : Nat) : Prop := ∀ r, h.objs.get b = some (.cells r) → h.row b = some r

def Together (h : Hp) (b d : Nat) (i j : Img) : Prop :=
  ∃ r q, h.objs.get b = some (.cells r) ∧ h.objs.get d = some (.cells q) ∧ r.fam = q.fam ∧ r.fam ≠ 0 ∧ i.s + q.base = j.s + r.base

/-- Where new memory begins, and which places of the heap are laid ahead of the operation that makes them. -/
structure Bs where
  n : Nat
  g : Nat → Prop
instance : Coe Bs Nat := ⟨Bs.n⟩

structure HR (P : Program) (ρ : Rho) (N : Bs) (h : Hp) (w : World) : Prop where
  obj : ∀ b o i, h.objs.get b = some o → h.alive b → ρ b = some i → ∃ o', w.heap[i.b]? = some o' ∧ ObjR P ρ i o o'
  dom : ∀ b i, ρ b = some i → b < h.next
  lo : ∀ b i, ρ b = some i → N.n ≤ i.b ∧ i.b < w.heap.size
  inj : ∀ b d i j, ρ b = some i → ρ d = some j → b ≠ d → i.b = j.b → Together h b d i j
  famlt : ∀ b r, h.objs.get b = some (.cells r) → r.fam < h.nfam
  mem : ∀ f l m, h.fams.get f = some l → m ∈ l → f < h.nfam → f ≠ 0 → ∃ q, h.objs.get m.b = some (.cells q) ∧ q.fam = f ∧ m.lo = q.base ∧ m.hi = q.base + q.c.length
  cover : ∀ b o, h.objs.get b = some o → b < h.next
  nx : h.next ≤ most
  nf : h.nfam ≤ most
  nf0 : 0 < h.nfam
  base : N.n ≤ w.heap.size
  gho : ∀ b, N.g b → ρ b = none ∧ b < h.next

theorem ObjR.mono {P : Program} {ρ ρ' : Rho} (hr : ρ.le ρ') {i : Img} {o : CObj} {o' : Obj} (h : ObjR P ρ i o o') : ObjR P ρ' i o o' := by
  cases o <;> cases o' <;> simp only [ObjR] at h ⊢ <;> try exact h
  · obtain ⟨h1, h2, h3, h4, h5, h6⟩ := h
    exact ⟨h1, h2, h3, fun k v hk => let ⟨v', a, b⟩ := h4 k v hk; ⟨v', a, b.mono hr⟩, h5, h6⟩
  · exact ⟨h.1.mono hr, h.2⟩
  · rename_i m since seen st m' since' seen' st'
    refine ⟨?_, h.2⟩
    have h1 := h.1
    cases m <;> cases m' <;> simp only at h1 ⊢
    obtain ⟨j, hj, e⟩ := h1
    exact ⟨j, hr _ _ hj, e⟩

/-- Draws turn nothing. -/
theorem HR.drewn {P : Program} {ρ : Rho} {N : Bs} {h : Hp} {w : World} (H : HR P ρ N h w) (n : Nat) : HR P ρ N h { w with drawn := n } :=
  ⟨H.obj, H.dom, H.lo, H.inj, H.famlt, H.mem, H.cover, H.nx, H.nf, H.nf0, H.base, H.gho⟩

/-- A row that can be read lies in the machine's memory as it stands. -/
theorem HR.row {P : Program} {ρ : Rho} {N : Bs} {h : Hp} {w : World} (H : HR P ρ N h w) {b : Nat} {r : Row} (hr : h.row b = some r) {i : Img} (hi : ρ b = some i) :
    ∃ arr e fr, w.heap[i.b]? = some (.cells arr e fr) ∧ RowR P ρ i r arr e fr ∧ h.objs.get b = some (.cells r) := by
  have hget : h.objs.get b = some (.cells r) := by
    unfold Hp.row at hr
    split at hr
    · rename_i q hq
      rw [hq]
      split at hr
      · injection hr with hr; rw [hr]
      · split at hr
        · split at hr
          · injection hr with hr; rw [hr]
          · cases hr
        · cases hr
    · cases hr
  obtain ⟨o', ho, hR⟩ := H.obj b _ i hget (fun q hq => by rw [hget] at hq; injection hq with hq; injection hq with hq; rw [← hq]; exact hr) hi
  cases o' <;> simp only [ObjR] at hR
  exact ⟨_, _, _, ho, hR, hget⟩

theorem HR.map? {P : Program} {ρ : Rho} {N : Bs} {h : Hp} {w : World} (H : HR P ρ N h w) {b : Nat} {es : List MapEntry} {k : Nat} (hr : h.map? b = some (es, k)) {i : Img} (hi : ρ b = some i) :
    ∃ es', w.heap[i.b]? = some (.map es' k) ∧ MRs ρ es es'.toList ∧ h.objs.get b = some (.map es k) := by
  have hget : h.objs.get b = some (.map es k) := by
    unfold Hp.map? at hr
    split at hr
    · rename_i es' k' hq
      injection hr with hr
      injection hr with h1 h2
      rw [hq, h1, h2]
    · cases hr
  obtain ⟨o', ho, hR⟩ := H.obj b _ i hget (fun q hq => by rw [hget] at hq; cases hq) hi
  cases o' <;> simp only [ObjR] at hR
  obtain ⟨h1, rfl⟩ := hR
  exact ⟨_, ho, h1, hget⟩

end Go.Ev

namespace Go.Ev
open Go.RowKit

/-! ### lists -/
theorem splice_spec : ∀ (c : List Value) (o : Nat) (vs c' : List Value), splice c o vs = some c' →
    c'.length = c.length ∧ o + vs.length ≤ c.length ∧ ∀ j, c'[j]? = if o ≤ j ∧ j < o + vs.length then vs[j - o]? else c[j]?
  | c, 0, [], c', h => by
    simp only [splice] at h
    injection h with h
    subst h
    exact ⟨rfl, by simp, fun j => by rw [if_neg (by simp)]⟩
  | x :: c, 0, v :: vs, c', h => by
    simp only [splice] at h
    split at h
    · rename_i r hr
      injection h with h
      subst h
      obtain ⟨h1, h2, h3⟩ := splice_spec c 0 vs r hr
      refine ⟨by simp [h1], by simpa using h2, fun j => ?_⟩
      cases j with
      | zero => simp
      | succ j =>
        have h4 := h3 j
        simp only [List.getElem?_cons_succ, h4]
        simp
    · cases h
  | x :: c, o + 1, vs, c', h => by
    simp only [splice] at h
    split at h
    · rename_i r hr
      injection h with h
      subst h
      obtain ⟨h1, h2, h3⟩ := splice_spec c o vs r hr
      refine ⟨by simp [h1], by simp; omega, fun j => ?_⟩
      cases j with
      | zero => simp
      | succ j =>
        have h4 := h3 j
        simp only [List.getElem?_cons_succ, h4]
        by_cases hj : o ≤ j ∧ j < o + vs.length
        · rw [if_pos hj, if_pos (by omega), show j + 1 - (o + 1) = j - o by omega]
        · rw [if_neg hj, if_neg (by omega)]
    · cases h
  | [], 0, _ :: _, c', h => by simp [splice] at h
  | [], _ + 1, _, c', h => by simp [splice] at h

theorem takeN_spec : ∀ (c : List Value) (n : Nat) (l : List Value), takeN c n = some l → l = c.take n ∧ n ≤ c.length
  | c, 0, l, h => by
    cases c <;> simp [takeN] at h <;> simp [h]
  | [], n + 1, l, h => by simp [takeN] at h
  | x :: c, n + 1, l, h => by
    simp only [takeN] at h
    split at h
    · rename_i r hr
      injection h with h
      subst h
      obtain ⟨h1, h2⟩ := takeN_spec c n r hr
      exact ⟨by simp [h1], by simpa using h2⟩
    · cases h

theorem AR.fn {ρ : Rho} {a a' : Addr} {i : Img} (h : AR ρ a a' i) : a' = ⟨i.b, i.s + a.off, none⟩ := h.2.2
theorem AR.add {ρ : Rho} {a a' : Addr} {i : Img} (h : AR ρ a a' i) (n : Nat) : AR ρ (a.add n) (a'.add n) i := by
  obtain ⟨h1, h2, rfl⟩ := h
  unfold Addr.add
  by_cases hn : n = 0
  · simp only [hn, if_true]
    exact ⟨h1, h2, rfl⟩
  · simp only [hn, if_false]
    exact ⟨rfl, h2, by simp [Nat.add_assoc]⟩
theorem add_block (a : Addr) (n : Nat) : (a.add n).block = a.block := by unfold Addr.add; split <;> rfl
theorem add_off (a : Addr) (n : Nat) : (a.add n).off = a.off + n := by unfold Addr.add; split <;> simp_all
theorem add_spot (a : Addr) (n : Nat) (h : a.spot = none) : (a.add n).spot = none := by unfold Addr.add; split <;> simp_all

variable {P : Program} {ρ : Rho} {N : Bs} {h : Hp} {w : World}

/-! ### reading -/
theorem HR.load (H : HR P ρ N h w) {a a' : Addr} {i : Img} (ha : AR ρ a a' i) {v : Value} (hv : h.load a = some v) : ∃ v', w.cell? a' = some v' ∧ VR ρ v v' := by
  unfold Hp.load at hv
  split at hv
  · cases hv
  · split at hv
    · rename_i r hr
      obtain ⟨arr, e, fr, hw, hR, _⟩ := H.row hr ha.2.1
      obtain ⟨v', h1, h2⟩ := hR.2.2.2.1 _ _ hv
      refine ⟨v', ?_, h2⟩
      rw [ha.fn]
      simp [World.cell?, hw, h1]
    · cases hv

theorem run_load_cell {a : Addr} {v : Value} (hc : w.cell? a = some v) : (load a).run P w = .ok v w := by
  rw [run_load, hc]

theorem loadCellsFrom_run {a : Addr} (l : List Value) : ∀ (i : Nat) (acc : Array Value), (∀ k v, l[k]? = some v → w.cell? (a.add (i + k)) = some v) →
    (loadCellsFrom a i l.length acc).run P w = .ok (acc ++ l.toArray) w := by
  induction l with
  | nil => intro i acc _; simp [loadCellsFrom]
  | cons v l ih =>
    intro i acc hc
    have h0 := hc 0 v rfl
    simp only [Nat.add_zero] at h0
    simp only [List.length_cons, loadCellsFrom, Sem.run_bind, run_load_cell h0, Result.andThen_ok]
    rw [ih (i + 1) (acc.push v) (fun k u hk => by
      have := hc (k + 1) u (by simpa using hk)
      rwa [show i + (k + 1) = i + 1 + k by omega] at this)]
    simp

theorem HR.loads (H : HR P ρ N h w) {a a' : Addr} {n : Nat} (ha : n = 0 ∨ ∃ i, AR ρ a a' i) {l : List Value} (hv : h.loads a n = some l) :
    ∃ l' : Array Value, (loadCells a' n).run P w = .ok l' w ∧ VRs ρ l l'.toList ∧ l.length = n := by
  cases n with
  | zero =>
    simp only [Hp.loads, Option.some.injEq] at hv
    subst hv
    exact ⟨#[], by simp [loadCells, loadCellsFrom], .nil, rfl⟩
  | succ n =>
    obtain ⟨i, ha⟩ := ha.resolve_left (by simp)
    simp only [Hp.loads] at hv
    split at hv
    · cases hv
    · split at hv
      · rename_i r hr
        obtain ⟨arr, e, fr, hw, hR, _⟩ := H.row hr ha.2.1
        obtain ⟨h1, h2⟩ := takeN_spec _ _ _ hv
        have hlen : l.length = n + 1 := by rw [h1, List.length_take]; omega
        have hle : a.off + (n + 1) ≤ r.c.length := by simp only [List.length_drop] at h2; omega
        have hle' : i.s + a.off + (n + 1) ≤ arr.size := by have := hR.2.1; omega
        let l' : List Value := (arr.toList.drop (i.s + a.off)).take (n + 1)
        have hl' : l'.length = n + 1 := by simp [l']; omega
        have hg : ∀ k v, l'[k]? = some v → arr[i.s + a.off + k]? = some v := by
          intro k v hk
          simp only [l', List.getElem?_take, List.getElem?_drop] at hk
          split at hk
          · simpa using hk
          · cases hk
        refine ⟨l'.toArray, ?_, VRs.of_get (by simp [hl', hlen]) (fun k v hk => ?_), hlen⟩
        · have := loadCellsFrom_run (P := P) (w := w) (a := a') l' 0 #[] (fun k v hk => by
            rw [(ha.add (0 + k)).fn]
            simp only [World.cell?, hw, add_off]
            have := hg k v hk
            simpa [Nat.add_assoc] using this)
          rw [hl'] at this
          simpa [loadCells] using this
        · have hk' : r.c[a.off + k]? = some v := by
            rw [h1, List.getElem?_take] at hk
            split at hk
            · simpa using hk
            · cases hk
          obtain ⟨v', h3, h4⟩ := hR.2.2.2.1 _ _ hk'
          have hkn : k < n + 1 := by
            rcases Nat.lt_or_ge k (n + 1) with h | h
            · exact h
            · rw [List.getElem?_eq_none (by omega)] at hk; cases hk
          refine ⟨v', ?_, h4⟩
          simp only [l', List.getElem?_take, List.getElem?_drop, hkn, if_true]
          simpa [Nat.add_assoc] using h3
      · cases hv

/-! ### writing -/
def over (arr : Array Value) (k : Nat) : List Value → Array Value
  | [] => arr
  | v :: vs => over (arr.setIfInBounds k v) (k + 1) vs

theorem over_size : ∀ (vs : List Value) (arr : Array Value) (k : Nat), (over arr k vs).size = arr.size
  | [], _, _ => rfl
  | v :: vs, arr, k => by simp [over, over_size vs]

theorem over_get : ∀ (vs : List Value) (arr : Array Value) (k : Nat), k + vs.length ≤ arr.size → ∀ j, (over arr k vs)[j]? = if k ≤ j ∧ j < k + vs.length then vs[j - k]? else arr[j]?
  | [], arr, k, _, j => by rw [if_neg (by simp)]; rfl
  | v :: vs, arr, k, hk, j => by
    simp only [List.length_cons] at hk
    rw [over, over_get vs _ _ (by simp; omega)]
    by_cases h0 : j = k
    · subst h0
      rw [if_neg (by omega), if_pos (by simp)]
      simp only [Nat.sub_self, List.getElem?_cons_zero]
      rw [Array.getElem?_setIfInBounds_self_of_lt (by omega)]
    · by_cases h1 : k + 1 ≤ j ∧ j < k + 1 + vs.length
      · rw [if_pos h1, if_pos (by simp; omega), show j - k = (j - (k + 1)) + 1 by omega, List.getElem?_cons_succ]
      · rw [if_neg h1, if_neg (by simp; omega), Array.getElem?_setIfInBounds_ne (by omega)]

def World.putBlock (w : World) (b : Nat) (o : Obj) : World := { w with heap := w.heap.setIfInBounds b o }

theorem putBlock_get (w : World) (b : Nat) (o : Obj) (k : Nat) (hb : b < w.heap.size) : (World.putBlock w b o).heap[k]? = if k = b then some o else w.heap[k]? := by
  unfold World.putBlock
  simp only []
  by_cases hk : k = b
  · subst hk; rw [if_pos rfl, Array.getElem?_setIfInBounds_self_of_lt hb]
  · rw [if_neg hk, Array.getElem?_setIfInBounds_ne (fun e => hk e.symm)]
theorem putBlock_size (w : World) (b : Nat) (o : Obj) : (World.putBlock w b o).heap.size = w.heap.size := by simp [World.putBlock]

theorem putBlock_same (w : World) (b : Nat) (o : Obj) (h : w.heap[b]? = some o) : World.putBlock w b o = w := by
  obtain ⟨hb, he⟩ := Array.getElem?_eq_some_iff.1 h
  unfold World.putBlock
  have : w.heap.setIfInBounds b o = w.heap := by
    apply Array.ext
    · simp
    · intro k h1 h2
      by_cases hk : b = k
      · subst hk; simp [he]
      · rw [Array.getElem_setIfInBounds (by simpa using h1), if_neg hk]
  rw [this]

theorem setCell_put {w : World} {b : Nat} {arr : Array Value} {e : TypeId} {fr : Nat × Nat} (hb : w.heap[b]? = some (.cells arr e fr)) (o : Nat) (v : Value) :
    w.setCell ⟨b, o, none⟩ v = World.putBlock w b (.cells (arr.setIfInBounds o v) e fr) := by
  obtain ⟨hlt, he⟩ := Array.getElem?_eq_some_iff.1 hb
  unfold World.setCell World.putBlock
  congr 1
  apply Array.ext
  · simp
  · intro k h1 h2
    by_cases hk : b = k
    · subst hk
      simp [Array.getElem_modify, he]
    · rw [Array.getElem_setIfInBounds (by simpa using h2), if_neg hk]
      simp [Array.getElem_modify, hk]

theorem storeCells_run {b : Nat} {e : TypeId} {fr : Nat × Nat} (off : Nat) : ∀ (vs : List Value) (i : Nat) (w : World) (arr : Array Value), w.heap[b]? = some (.cells arr e fr) →
    (∀ k, k < arr.size → (fr.1 ≤ k && k < fr.2) = false) → off + i + vs.length ≤ arr.size → vs.all oneCell = true →
    (storeCells ⟨b, off, none⟩ vs i).run P w = .ok () (World.putBlock w b (.cells (over arr (off + i) vs) e fr))
  | [], i, w, arr, hb, _, _, _ => by
    simp only [storeCells, over, Sem.run_pure]
    rw [putBlock_same w b _ hb]
  | v :: vs, i, w, arr, hb, hf, hl, hone => by
    simp only [List.length_cons] at hl
    simp only [List.all_cons, Bool.and_eq_true] at hone
    have hlt : b < w.heap.size := (Array.getElem?_eq_some_iff.1 hb).1
    have ha : (⟨b, off, none⟩ : Addr).add i = ⟨b, off + i, none⟩ := by unfold Addr.add; split <;> simp_all
    have hc : w.cell? ⟨b, off + i, none⟩ = some (arr[off + i]'(by omega)) := by
      simp [World.cell?, hb, Array.getElem?_eq_getElem (show off + i < arr.size by omega)]
    have hfz : w.frozen? ⟨b, off + i, none⟩ = false := by
      simp only [World.frozen?, hb]
      exact hf _ (by omega)
    simp only [storeCells, ha, Sem.run_bind, run_store P w _ _ _ (by rw [← oneCell_eq]; exact hone.1), hc, hfz, Bool.false_eq_true, if_false, Result.andThen_ok]
    rw [setCell_put hb]
    rw [storeCells_run off vs (i + 1) _ (arr.setIfInBounds (off + i) v) (by rw [putBlock_get _ _ _ _ hlt, if_pos rfl]) (fun k hk => hf k (by simpa using hk)) (by simp; omega) hone.2]
    simp only [over]
    unfold World.putBlock
    simp [Nat.add_assoc, Array.setIfInBounds_setIfInBounds]

theorem kill_sub {l : List Mem} {b lo hi : Nat} {m : Mem} (h : m ∈ kill l b lo hi) : m ∈ l ∧ (m.b = b ∨ hi ≤ m.lo ∨ m.hi ≤ lo) := by
  unfold kill at h
  rw [List.mem_filter] at h
  refine ⟨h.1, ?_⟩
  have h2 := h.2
  simp only [Bool.or_eq_true, Nat.ble_eq] at h2
  rcases h2 with (h2 | h2) | h2
  · exact .inl (by simpa using h2)
  · exact .inr (.inl h2)
  · exact .inr (.inr h2)

theorem row_get {h : Hp} {b : Nat} {r : Row} (hr : h.row b = some r) : h.objs.get b = some (.cells r) ∧ (r.fam = 0 ∨ ∃ l, h.fams.get r.fam = some l ∧ ∃ m ∈ l, m.b = b) := by
  unfold Hp.row at hr
  split at hr
  · rename_i q hq
    split at hr
    · rename_i h0
      injection hr with hr
      subst hr
      exact ⟨hq, .inl h0⟩
    · rename_i f h0
      split at hr
      · rename_i l hl
        split at hr
        · rename_i ha
          injection hr with hr
          subst hr
          refine ⟨hq, .inr ⟨l, by rw [h0]; exact hl, ?_⟩⟩
          rw [List.any_eq_true] at ha
          obtain ⟨m, hm, he⟩ := ha
          exact ⟨m, hm, by simpa using he⟩
        · cases hr
      · cases hr
  · cases hr

theorem row_mk {h : Hp} {b : Nat} {r : Row} (hg : h.objs.get b = some (.cells r)) (hf : r.fam = 0 ∨ ∃ l, h.fams.get r.fam = some l ∧ ∃ m ∈ l, m.b = b) : h.row b = some r := by
  unfold Hp.row
  rw [hg]
  simp only []
  split
  · rfl
  · rename_i f h0
    obtain ⟨l, hl, m, hm, he⟩ := hf.resolve_left (by omega)
    rw [h0] at hl
    rw [hl]
    simp only []
    have : (l.any fun m => Nat.beq m.b b) = true := List.any_eq_true.2 ⟨m, hm, by simpa using he⟩
    rw [this]

end Go.Ev

namespace Go.Ev
open Go.RowKit
variable {P : Program} {ρ : Rho} {N : Bs} {h : Hp} {w : World}

theorem HR.lt_most (H : HR P ρ N h w) {b : Nat} {i : Img} (hi : ρ b = some i) : b < most + 1 := by
  have := H.dom b i hi
  have := H.nx
  omega

theorem below_put {b : Nat} {o : Obj} (hb : N.n ≤ b) : Below N w (World.putBlock w b o) :=
  ⟨rfl, rfl, rfl, by rw [putBlock_size]; exact Nat.le_refl _, fun k hk => by
    unfold World.putBlock
    rw [Array.getElem?_setIfInBounds_ne (by omega)]⟩

/-- A block that is no row is written: its images' blocks are no one else's. -/
theorem HR.put_alone (H : HR P ρ N h w) {b : Nat} {i : Img} (hi : ρ b = some i) {o0 o : CObj} {o' : Obj} (hget : h.objs.get b = some o0)
    (hno : ∀ r, o0 ≠ .cells r) (hno' : ∀ r, o ≠ .cells r) (hR : ObjR P ρ i o o') : HR P ρ N (h.put b o) (World.putBlock w i.b o') ∧ Below N w (World.putBlock w i.b o') := by
  have hb := H.lt_most hi
  have hlo := H.lo b i hi
  have hobjs : ∀ d, (h.put b o).objs.get d = if d = b then some o else h.objs.get d := fun d => Tr.get_set' _ _ _ _ hb
  refine ⟨⟨?_, H.dom, fun d j hj => by rw [putBlock_size]; exact H.lo d j hj, ?_, ?_, ?_, ?_, H.nx, H.nf, H.nf0, by rw [putBlock_size]; exact H.base, H.gho⟩, below_put hlo.1⟩
  · intro d q j hq hal hj
    rw [hobjs] at hq
    by_cases hd : d = b
    · subst hd
      rw [if_pos rfl] at hq
      injection hq with hq
      subst hq
      rw [hi] at hj
      injection hj with hj
      subst hj
      exact ⟨o', by rw [putBlock_get _ _ _ _ hlo.2, if_pos rfl], hR⟩
    · rw [if_neg hd] at hq
      have hal' : h.alive d := by
        intro r hr
        have := hal r (by rw [hobjs, if_neg hd]; exact hr)
        obtain ⟨h1, h2⟩ := row_get this
        rw [hobjs, if_neg hd] at h1
        exact row_mk h1 h2
      obtain ⟨q', h1, h2⟩ := H.obj d q j hq hal' hj
      by_cases e : j.b = i.b
      · obtain ⟨r, _, h3, _⟩ := H.inj b d i j hi hj (fun e => hd e.symm) e.symm
        rw [hget] at h3
        injection h3 with h3
        exact absurd h3 (hno r)
      · exact ⟨q', by rw [putBlock_get _ _ _ _ hlo.2, if_neg e]; exact h1, h2⟩
  · intro d f j k hj hk hne e
    obtain ⟨r, q, h1, h2, h3⟩ := H.inj d f j k hj hk hne e
    refine ⟨r, q, ?_, ?_, h3⟩
    · rw [hobjs, if_neg (fun e => by subst e; rw [hget] at h1; injection h1 with h1; exact hno r h1)]; exact h1
    · rw [hobjs, if_neg (fun e => by subst e; rw [hget] at h2; injection h2 with h2; exact hno q h2)]; exact h2
  · intro d r hr
    rw [hobjs] at hr
    by_cases hd : d = b
    · subst hd; rw [if_pos rfl] at hr; injection hr with hr; exact absurd hr (hno' r)
    · rw [if_neg hd] at hr; exact H.famlt d r hr
  · intro f l m hl hm hf hf0
    obtain ⟨q, h1, h2⟩ := H.mem f l m hl hm hf hf0
    refine ⟨q, ?_, h2⟩
    rw [hobjs, if_neg (fun e => by rw [e] at h1; rw [hget] at h1; injection h1 with h1; exact hno q h1)]
    exact h1
  · intro d q hq
    rw [hobjs] at hq
    by_cases hd : d = b
    · rw [hd]; exact H.cover b _ hget
    · rw [if_neg hd] at hq; exact H.cover d q hq

theorem HR.stores (H : HR P ρ N h w) {a a' : Addr} {vs vs' : List Value} (ha : vs = [] ∨ ∃ i, AR ρ a a' i) (hvs : VRs ρ vs vs') {h1 : Hp} (hs : h.stores a vs = some h1) :
    ∃ w1, (storeCells a' vs' 0).run P w = .ok () w1 ∧ HR P ρ N h1 w1 ∧ Below N w w1 := by
  cases hvs with
  | nil =>
    simp only [Hp.stores, Option.some.injEq] at hs
    subst hs
    exact ⟨w, by simp [storeCells], H, Below.refl _ _⟩
  | @cons v v' l l' hv hl =>
    obtain ⟨i, ha⟩ := ha.resolve_left (by simp)
    simp only [Hp.stores] at hs
    split at hs
    · cases hs
    split at hs
    · cases hs
    rename_i hone
    split at hs
    · cases hs
    rename_i r hr
    split at hs
    · cases hs
    rename_i c hc
    have hi := ha.2.1
    obtain ⟨arr, e, fr, hw, hR, hget⟩ := H.row hr hi
    obtain ⟨hgr, hfam⟩ := row_get hr
    have hb := H.lt_most hi
    have hlo := H.lo _ i hi
    obtain ⟨c1, c2, c3⟩ := splice_spec _ _ _ _ hc
    have hvl : (v' :: l').length = (v :: l).length := VRs.length (.cons hv hl)
    have hone' : (v' :: l').all oneCell = true := by
      have aux : ∀ {x y : List Value}, VRs ρ x y → x.all oneCell = true → y.all oneCell = true := by
        intro x y hxy
        induction x generalizing y with
        | nil => cases hxy; exact fun _ => rfl
        | cons p x ih =>
          cases hxy with
          | cons hp hx =>
            intro hh
            simp only [List.all_cons, Bool.and_eq_true] at hh ⊢
            exact ⟨by rw [hp.oneCell]; exact hh.1, ih hx hh.2⟩
      exact aux (.cons hv hl) hone
    have hin : i.s + a.off + (v' :: l').length ≤ arr.size := by have := hR.2.1; omega
    have hrun := storeCells_run (P := P) (b := i.b) (e := e) (fr := fr) (i.s + a.off) (v' :: l') 0 w arr hw hR.2.2.2.2.1 (by omega) hone'
    rw [Nat.add_zero] at hrun
    rw [← ha.fn] at hrun
    refine ⟨_, hrun, ?_, below_put hlo.1⟩
    -- what the new row says
    have hRow : RowR P ρ i { r with c := c } (over arr (i.s + a.off) (v' :: l')) e fr := by
      refine ⟨hR.1, by rw [over_size]; simp only [c1]; exact hR.2.1, by rw [over_size]; exact hR.2.2.1, ?_, by rw [over_size]; exact hR.2.2.2.2.1, hR.2.2.2.2.2⟩
      intro k u hk
      have hk' : c[k]? = some u := hk
      rw [c3] at hk'
      rw [over_get _ _ _ hin]
      by_cases hkr : a.off ≤ k ∧ k < a.off + (v :: l).length
      · rw [if_pos hkr] at hk'
        rw [if_pos (by omega), show i.s + k - (i.s + a.off) = k - a.off by omega]
        exact VRs.get (.cons hv hl) hk'
      · rw [if_neg hkr] at hk'
        rw [if_neg (by omega)]
        exact hR.2.2.2.1 k u hk'
    -- the two shapes of the new heap
    have key : ∀ h1 : Hp, h1.objs = (h.put a.block (.cells { r with c := c })).objs → h1.next = h.next → h1.nfam = h.nfam →
        (∀ f l2, h1.fams.get f = some l2 → f < h.nfam → ∃ l1, h.fams.get f = some l1 ∧ (∀ m ∈ l2, m ∈ l1) ∧ (f = r.fam → f ≠ 0 → ∀ m ∈ l2, m.b = a.block ∨ r.base + a.off + (v :: l).length ≤ m.lo ∨ m.hi ≤ r.base + a.off)) →
        HR P ρ N h1 (World.putBlock w i.b (.cells (over arr (i.s + a.off) (v' :: l')) e fr)) := by
      intro h1 e1 e2 e3 hfams
      have hobjs : ∀ d, h1.objs.get d = if d = a.block then some (.cells { r with c := c }) else h.objs.get d := fun d => by rw [e1]; exact Tr.get_set' _ _ _ _ hb
      refine ⟨?_, fun d j hj => by rw [e2]; exact H.dom d j hj, fun d j hj => by rw [putBlock_size]; exact H.lo d j hj, ?_, ?_, ?_, ?_, by rw [e2]; exact H.nx, by rw [e3]; exact H.nf, by rw [e3]; exact H.nf0, by rw [putBlock_size]; exact H.base, fun b hb => by rw [e2]; exact H.gho b hb⟩
      · intro d q j hq hal hj
        rw [hobjs] at hq
        by_cases hd : d = a.block
        · subst hd
          rw [if_pos rfl] at hq
          injection hq with hq
          subst hq
          rw [hi] at hj
          injection hj with hj
          subst hj
          exact ⟨.cells (over arr (i.s + a.off) (v' :: l')) e fr, by rw [putBlock_get _ _ _ _ hlo.2, if_pos rfl], hRow⟩
        · rw [if_neg hd] at hq
          -- alive before
          have hal2 : ∀ q', h.objs.get d = some (.cells q') → q'.fam = 0 ∨ ∃ l2, h1.fams.get q'.fam = some l2 ∧ ∃ m ∈ l2, m.b = d := by
            intro q' hq'
            have := hal q' (by rw [hobjs, if_neg hd]; exact hq')
            exact (row_get this).2
          have hal' : h.alive d := by
            intro q' hq'
            refine row_mk hq' ?_
            rcases hal2 q' hq' with h0 | ⟨l2, h2, m, hm, he⟩
            · exact .inl h0
            · obtain ⟨l1, h3, h4, _⟩ := hfams _ _ h2 (H.famlt d q' hq')
              exact .inr ⟨l1, h3, m, h4 m hm, he⟩
          obtain ⟨q', g1, g2⟩ := H.obj d q j hq hal' hj
          by_cases ej : j.b = i.b
          · obtain ⟨r0, q0, g3, g4, g5, g6, g7⟩ := H.inj a.block d i j hi hj (fun e => hd e.symm) ej.symm
            rw [hget] at g3
            injection g3 with g3
            injection g3 with g3
            subst g3
            rw [hq] at g4
            injection g4 with g4
            subst g4
            cases q' <;> simp only [ObjR] at g2
            rename_i arr2 e2' fr2
            rw [ej, hw] at g1
            injection g1 with g1
            injection g1 with g1a g1b g1c
            subst g1a
            subst g1b
            subst g1c
            refine ⟨_, by rw [ej, putBlock_get _ _ _ _ hlo.2, if_pos rfl], ?_⟩
            refine ⟨g2.1, by rw [over_size]; exact g2.2.1, by rw [over_size]; exact g2.2.2.1, ?_, by rw [over_size]; exact g2.2.2.2.2.1, g2.2.2.2.2.2⟩
            -- no place of it was written
            rcases hal2 q0 hq with h0 | ⟨l2, h2, m, hm, he⟩
            · exact absurd h0 (by omega)
            · obtain ⟨l1, h3, h4, h5⟩ := hfams _ _ h2 (H.famlt d q0 hq)
              obtain ⟨q1, m1, m2, m3, m4⟩ := H.mem _ _ m h3 (h4 m hm) (H.famlt d q0 hq) (by omega)
              rw [he, hq] at m1
              injection m1 with m1
              injection m1 with m1
              subst m1
              have h6 := h5 g5.symm (by omega) m hm
              have h7 := h6.resolve_left (fun e => hd (he.symm.trans e))
              intro k u hk
              have hkl : k < q0.c.length := by
                rcases Nat.lt_or_ge k q0.c.length with h | h
                · exact h
                · rw [List.getElem?_eq_none h] at hk; cases hk
              rw [over_get _ _ _ hin, if_neg (by omega)]
              exact g2.2.2.2.1 k u hk
          · exact ⟨q', by rw [putBlock_get _ _ _ _ hlo.2, if_neg ej]; exact g1, g2⟩
      · intro d f j k hj hk hne ejk
        obtain ⟨r0, q0, g1, g2, g3, g4, g5⟩ := H.inj d f j k hj hk hne ejk
        by_cases hd : d = a.block
        · have hf : f ≠ a.block := fun e => hne (hd.trans e.symm)
          rw [hd, hget] at g1
          injection g1 with g1
          injection g1 with g1
          subst g1
          exact ⟨{ r with c := c }, q0, by rw [hobjs, if_pos hd], by rw [hobjs, if_neg hf]; exact g2, g3, g4, g5⟩
        · by_cases hf : f = a.block
          · rw [hf, hget] at g2
            injection g2 with g2
            injection g2 with g2
            subst g2
            exact ⟨r0, { r with c := c }, by rw [hobjs, if_neg hd]; exact g1, by rw [hobjs, if_pos hf], g3, g4, g5⟩
          · exact ⟨r0, q0, by rw [hobjs, if_neg hd]; exact g1, by rw [hobjs, if_neg hf]; exact g2, g3, g4, g5⟩
      · intro d q hq
        rw [e3]
        rw [hobjs] at hq
        by_cases hd : d = a.block
        · rw [if_pos hd] at hq
          injection hq with hq
          injection hq with hq
          subst hq
          show r.fam < h.nfam
          exact H.famlt _ r hget
        · rw [if_neg hd] at hq
          exact H.famlt d q hq
      · intro f l2 m hl2 hm hf hf0
        rw [e3] at hf
        obtain ⟨l1, h3, h4, _⟩ := hfams f l2 hl2 hf
        obtain ⟨q1, m1, m2, m3, m4⟩ := H.mem f l1 m h3 (h4 m hm) hf hf0
        by_cases hd : m.b = a.block
        · rw [hd, hget] at m1
          injection m1 with m1
          injection m1 with m1
          subst m1
          exact ⟨{ r with c := c }, by rw [hobjs, if_pos hd], m2, m3, by simpa [c1] using m4⟩
        · exact ⟨q1, by rw [hobjs, if_neg hd]; exact m1, m2, m3, m4⟩
      · intro d q hq
        rw [hobjs] at hq
        rw [e2]
        by_cases hd : d = a.block
        · rw [hd]; exact H.cover _ _ hget
        · rw [if_neg hd] at hq; exact H.cover d q hq
    split at hs
    · rename_i hf0
      injection hs with hs
      subst hs
      refine key _ rfl rfl rfl (fun f l2 hl2 _ => ⟨l2, hl2, fun _ hm => hm, fun e1 e2 => absurd (e1.trans hf0) e2⟩)
    · rename_i f hf0
      split at hs
      · cases hs
      · rename_i l0 hl0
        injection hs with hs
        subst hs
        have hfl := H.famlt _ _ hget
        have hnf := H.nf
        have hset : ∀ g, (Tr.set depth h.fams (f + 1) (kill l0 a.block (r.base + a.off) (r.base + a.off + (v :: l).length))).get g = if g = f + 1 then some (kill l0 a.block (r.base + a.off) (r.base + a.off + (v :: l).length)) else h.fams.get g :=
          fun g => Tr.get_set' _ _ _ _ (by omega)
        refine key _ rfl rfl rfl (fun g l2 hl2 _ => ?_)
        simp only [hset] at hl2
        by_cases hg : g = f + 1
        · rw [if_pos hg] at hl2
          injection hl2 with hl2
          subst hl2
          exact ⟨l0, by rw [hg]; exact hl0, fun m hm => (kill_sub hm).1, fun _ _ m hm => (kill_sub hm).2⟩
        · rw [if_neg hg] at hl2
          exact ⟨l2, hl2, fun _ hm => hm, fun e1 _ => absurd (e1.trans hf0) hg⟩

/-! ### a new block -/
def Rho.put (ρ : Rho) (b : Nat) (i : Img) : Rho := fun d => if d = b then some i else ρ d
theorem HR.le_put (H : HR P ρ N h w) (i : Img) : ρ.le (ρ.put h.next i) := by
  intro b j hj
  have := H.dom b j hj
  unfold Rho.put
  rw [if_neg (by omega)]
  exact hj

theorem alloc_eq (w : World) (o : Obj) : (w.alloc o).heap = w.heap.push o := rfl

theorem HR.new (H : HR P ρ N h w) {o : CObj} {b : Nat} {h1 : Hp} (hn : h.new o = some (b, h1)) {o' : Obj} (i : Img) (hib : i.b = w.heap.size)
    (hR : ObjR P (ρ.put b i) i o o') (hfam : ∀ r, o = .cells r → r.fam = 0) : b = h.next ∧ HR P (ρ.put b i) N h1 (w.alloc o') ∧ Below N w (w.alloc o') := by
  unfold Hp.new at hn
  split at hn
  · rename_i hlt
    injection hn with hn
    injection hn with hn1 hn2
    subst hn1
    subst hn2
    have hlt' : h.next < most := by simpa [Nat.blt_eq] using hlt
    have hle := H.le_put i
    have hobjs : ∀ d, (Tr.set depth h.objs h.next o).get d = if d = h.next then some o else h.objs.get d := fun d => Tr.get_set' _ _ _ _ (by omega)
    have hpush : ∀ k, k < w.heap.size → (w.alloc o').heap[k]? = w.heap[k]? := fun k hk => Below.heap_alloc w o' k hk
    have hsz : (w.alloc o').heap.size = w.heap.size + 1 := by rw [alloc_eq]; simp
    refine ⟨rfl, ⟨?_, ?_, ?_, ?_, ?_, ?_, ?_, by show h.next + 1 ≤ most; omega, H.nf, H.nf0, by rw [hsz]; have := H.base; omega, fun d hd => ⟨by unfold Rho.put; rw [if_neg (by have := (H.gho d hd).2; omega)]; exact (H.gho d hd).1, by show d < h.next + 1; have := (H.gho d hd).2; omega⟩⟩, (Below.refl _ _).alloc H.base _⟩
    · intro d q j hq hal hj
      simp only [hobjs] at hq
      by_cases hd : d = h.next
      · subst hd
        rw [if_pos rfl] at hq
        injection hq with hq
        subst hq
        have : j = i := by unfold Rho.put at hj; rw [if_pos rfl] at hj; injection hj with hj; exact hj.symm
        subst this
        refine ⟨o', ?_, hR⟩
        rw [hib, alloc_eq]
        simp
      · rw [if_neg hd] at hq
        have hj' : ρ d = some j := by unfold Rho.put at hj; rwa [if_neg hd] at hj
        have hal' : h.alive d := by
          intro r hr
          have := hal r (by simp only [hobjs]; rw [if_neg hd]; exact hr)
          exact row_mk hr (row_get this).2
        obtain ⟨q', g1, g2⟩ := H.obj d q j hq hal' hj'
        exact ⟨q', by rw [hpush _ (H.lo d j hj').2]; exact g1, g2.mono hle⟩
    · intro d j hj
      show d < h.next + 1
      by_cases hd : d = h.next
      · omega
      · have hj' : ρ d = some j := by unfold Rho.put at hj; rwa [if_neg hd] at hj
        have := H.dom d j hj'
        omega
    · intro d j hj
      rw [hsz]
      by_cases hd : d = h.next
      · have : j = i := by unfold Rho.put at hj; rw [if_pos hd] at hj; injection hj with hj; exact hj.symm
        subst this
        have := H.base
        omega
      · have hj' : ρ d = some j := by unfold Rho.put at hj; rwa [if_neg hd] at hj
        have := H.lo d j hj'
        omega
    · intro d f j k hj hk hne ejk
      have cs : ∀ d j, (ρ.put h.next i) d = some j → (d = h.next ∧ j = i) ∨ (d ≠ h.next ∧ ρ d = some j) := by
        intro d j hj
        unfold Rho.put at hj
        by_cases hd : d = h.next
        · rw [if_pos hd] at hj; injection hj with hj; exact .inl ⟨hd, hj.symm⟩
        · rw [if_neg hd] at hj; exact .inr ⟨hd, hj⟩
      rcases cs d j hj with ⟨e1, e2⟩ | ⟨e1, e2⟩ <;> rcases cs f k hk with ⟨f1, f2⟩ | ⟨f1, f2⟩
      · exact absurd (e1.trans f1.symm) hne
      · have := (H.lo f k f2).2
        subst e2
        omega
      · have := (H.lo d j e2).2
        subst f2
        omega
      · obtain ⟨r, q, g1, g2, g3⟩ := H.inj d f j k e2 f2 hne ejk
        exact ⟨r, q, by simp only [hobjs]; rw [if_neg e1]; exact g1, by simp only [hobjs]; rw [if_neg f1]; exact g2, g3⟩
    · intro d r hr
      simp only [hobjs] at hr
      by_cases hd : d = h.next
      · rw [if_pos hd] at hr
        injection hr with hr
        rw [hfam r hr]
        exact H.nf0
      · rw [if_neg hd] at hr
        exact H.famlt d r hr
    · intro f l m hl hm hf hf0
      obtain ⟨q, g1, g2⟩ := H.mem f l m hl hm hf hf0
      by_cases hd : m.b = h.next
      · have := H.cover _ _ g1
        omega
      · exact ⟨q, by simp only [hobjs]; rw [if_neg hd]; exact g1, g2⟩
    · intro d q hq
      simp only [hobjs] at hq
      show d < h.next + 1
      by_cases hd : d = h.next
      · omega
      · rw [if_neg hd] at hq
        have := H.cover d q hq
        omega
  · cases hn

/-! ### places that are laid ahead -/
theorem HR.less {n : Nat} {g g' : Nat → Prop} (H : HR P ρ ⟨n, g⟩ h w) (hg : ∀ b, g' b → g b) : HR P ρ ⟨n, g'⟩ h w :=
  ⟨H.obj, H.dom, H.lo, H.inj, H.famlt, H.mem, H.cover, H.nx, H.nf, H.nf0, H.base, fun b hb => H.gho b (hg b hb)⟩

/-- Room for more places. -/
theorem HR.room {n : Nat} {g : Nat → Prop} (H : HR P ρ ⟨n, g⟩ h w) (k : Nat) (hk : h.next + k ≤ most) :
    HR P ρ ⟨n, fun b => g b ∨ (h.next ≤ b ∧ b < h.next + k)⟩ { h with next := h.next + k } w := by
  refine ⟨fun b o i ho hal hi => H.obj b o i ho (fun r hr => row_mk hr (row_get (hal r hr)).2) hi, fun b i hi => ?_, H.lo, fun b d i j hi hj hne e => H.inj b d i j hi hj hne e, H.famlt, H.mem, fun b o ho => ?_, hk, H.nf, H.nf0, H.base, fun b hb => ?_⟩
  · have := H.dom b i hi
    show b < h.next + k
    omega
  · have := H.cover b o ho
    show b < h.next + k
    omega
  · show ρ b = none ∧ b < h.next + k
    rcases hb with hb | hb
    · have := H.gho b hb
      exact ⟨this.1, by omega⟩
    · refine ⟨?_, hb.2⟩
      cases hr : ρ b with
      | none => rfl
      | some i =>
        have := H.dom b i hr
        omega

theorem HR.lay {n : Nat} {g : Nat → Prop} (H : HR P ρ ⟨n, g⟩ h w) {b : Nat} (hb : g b) {o : CObj} (ho : ∀ r, o = .cells r → r.fam = 0) (hold : ∀ r, h.objs.get b = some (.cells r) → r.fam = 0) :
    HR P ρ ⟨n, g⟩ (h.put b o) w := by
  obtain ⟨hnone, hlt⟩ := H.gho b hb
  have hnx := H.nx
  have hobjs : ∀ d, (h.put b o).objs.get d = if d = b then some o else h.objs.get d := fun d => Tr.get_set' _ _ _ _ (by omega)
  have hne : ∀ d i, ρ d = some i → d ≠ b := by
    intro d i hi e
    subst e
    rw [hnone] at hi
    cases hi
  refine ⟨fun d q i hq hal hi => ?_, H.dom, H.lo, fun d f i j hi hj hdf e => ?_, fun d r hr => ?_, fun f l m hl hm hf hf0 => ?_, fun d q hq => ?_, H.nx, H.nf, H.nf0, H.base, H.gho⟩
  · have hd := hne d i hi
    rw [hobjs, if_neg hd] at hq
    refine H.obj d q i hq (fun r hr => ?_) hi
    have := hal r (by rw [hobjs, if_neg hd]; exact hr)
    exact row_mk hr (row_get this).2
  · obtain ⟨r, q, h1, h2, h3⟩ := H.inj d f i j hi hj hdf e
    exact ⟨r, q, by rw [hobjs, if_neg (hne d i hi)]; exact h1, by rw [hobjs, if_neg (hne f j hj)]; exact h2, h3⟩
  · rw [hobjs] at hr
    by_cases hd : d = b
    · rw [if_pos hd] at hr
      injection hr with hr
      rw [ho r hr]
      exact H.nf0
    · rw [if_neg hd] at hr
      exact H.famlt d r hr
  · obtain ⟨q, h1, h2, h3⟩ := H.mem f l m hl hm hf hf0
    have hd : m.b ≠ b := by
      intro e
      rw [e] at h1
      exact hf0 (h2.symm.trans (hold q h1))
    exact ⟨q, by rw [hobjs, if_neg hd]; exact h1, h2, h3⟩
  · rw [hobjs] at hq
    by_cases hd : d = b
    · subst hd; exact hlt
    · rw [if_neg hd] at hq
      exact H.cover d q hq

theorem layAll_HR {n : Nat} {g : Nat → Prop} {base k : Nat} (hg : ∀ i, i < k → g (base + i)) : ∀ (l : List (Nat × CObj)) (h : Hp), HR P ρ ⟨n, g⟩ h w → base + k ≤ most → (∀ i, i < k → ∀ r, h.objs.get (base + i) = some (.cells r) → r.fam = 0) →
    HR P ρ ⟨n, g⟩ (layAll base k l h) w
  | [], h, H, _, _ => H
  | (i, o) :: l, h, H, hk, hold => by
    simp only [layAll]
    split
    · rename_i h1 h2
      have h1' : i < k := by simpa [Nat.blt_eq] using h1
      have ho : ∀ r, o = .cells r → r.fam = 0 := by
        intro r e
        subst e
        simpa [famFree] using h2
      refine layAll_HR hg l _ (H.lay (hg i h1') ho (hold i h1')) hk (fun j hj r hr => ?_)
      have : (h.put (base + i) o).objs.get (base + j) = if base + j = base + i then some o else h.objs.get (base + j) := Tr.get_set' _ _ _ _ (by omega)
      rw [this] at hr
      split at hr
      · injection hr with hr
        exact ho r hr
      · exact hold j hj r hr
    · exact layAll_HR hg l h H hk hold

/-- What was laid ahead is made. -/
theorem HR.ghost {n : Nat} {g g' : Nat → Prop} (H : HR P ρ ⟨n, g⟩ h w) {b : Nat} (hb : g b) {o : CObj} (hget : h.objs.get b = some o) (hfam : ∀ r, o = .cells r → r.fam = 0) {o' : Obj} (i : Img) (hib : i.b = w.heap.size)
    (hR : ρ.le (ρ.put b i) → ObjR P (ρ.put b i) i o o') (hg : ∀ d, g' d → g d ∧ d ≠ b) : ρ.le (ρ.put b i) ∧ HR P (ρ.put b i) ⟨n, g'⟩ h (w.alloc o') ∧ Below n w (w.alloc o') := by
  obtain ⟨hnone, hlt⟩ := H.gho b hb
  have hle : ρ.le (ρ.put b i) := by
    intro d j hj
    unfold Rho.put
    rw [if_neg (fun e => by subst e; rw [hnone] at hj; cases hj)]
    exact hj
  have hpush : ∀ k, k < w.heap.size → (w.alloc o').heap[k]? = w.heap[k]? := fun k hk => Below.heap_alloc w o' k hk
  have hsz : (w.alloc o').heap.size = w.heap.size + 1 := by rw [alloc_eq]; simp
  have cs : ∀ d j, (ρ.put b i) d = some j → (d = b ∧ j = i) ∨ (d ≠ b ∧ ρ d = some j) := by
    intro d j hj
    unfold Rho.put at hj
    by_cases hd : d = b
    · rw [if_pos hd] at hj; injection hj with hj; exact .inl ⟨hd, hj.symm⟩
    · rw [if_neg hd] at hj; exact .inr ⟨hd, hj⟩
  refine ⟨hle, ⟨fun d q j hq hal hj => ?_, fun d j hj => ?_, fun d j hj => ?_, fun d f j k hj hk hne ejk => ?_, H.famlt, H.mem, H.cover, H.nx, H.nf, H.nf0, by rw [hsz]; have := H.base; show n ≤ w.heap.size + 1; exact Nat.le_succ_of_le this, fun d hd => ?_⟩, (Below.refl _ _).alloc H.base _⟩
  · rcases cs d j hj with ⟨e1, e2⟩ | ⟨e1, e2⟩
    · subst e1; subst e2
      rw [hget] at hq
      injection hq with hq
      subst hq
      refine ⟨o', ?_, hR hle⟩
      rw [hib, alloc_eq]
      simp
    · obtain ⟨q', g1, g2⟩ := H.obj d q j hq hal e2
      exact ⟨q', by rw [hpush _ (H.lo d j e2).2]; exact g1, g2.mono hle⟩
  · rcases cs d j hj with ⟨e1, e2⟩ | ⟨e1, e2⟩
    · subst e1; exact hlt
    · exact H.dom d j e2
  · rw [hsz]
    rcases cs d j hj with ⟨e1, e2⟩ | ⟨e1, e2⟩
    · subst e2
      have := H.base
      rw [hib]
      exact ⟨this, by omega⟩
    · have := H.lo d j e2
      exact ⟨this.1, by omega⟩
  · rcases cs d j hj with ⟨e1, e2⟩ | ⟨e1, e2⟩ <;> rcases cs f k hk with ⟨f1, f2⟩ | ⟨f1, f2⟩
    · exact absurd (e1.trans f1.symm) hne
    · have := (H.lo f k f2).2
      subst e2
      omega
    · have := (H.lo d j e2).2
      subst f2
      omega
    · exact H.inj d f j k e2 f2 hne ejk
  · obtain ⟨h1, h2⟩ := hg d hd
    obtain ⟨h3, h4⟩ := H.gho d h1
    exact ⟨by unfold Rho.put; rw [if_neg h2]; exact h3, h4⟩

end Go.Ev

namespace Go.Ev
open Go.RowKit

/-! ### numbers, bytes -/
theorem kindEq_eq {a b : IntKind} (h : kindEq a b = true) : a = b := by cases a <;> cases b <;> first | rfl | cases h
theorem intEq_beq (a b : Int) : intEq a b = (a == b) := by
  cases a <;> cases b <;> simp only [intEq]
  · rename_i m n
    rw [Bool.eq_iff_iff]
    simp
    omega
  · rfl
  · rfl
  · rename_i m n
    rw [Bool.eq_iff_iff]
    simp
theorem intLe_le (a b : Int) : intLe a b = decide (a ≤ b) := by
  unfold intLe
  split
  · rename_i n hn
    have : 0 ≤ b - a := by rw [hn]; exact Int.natCast_nonneg n
    simp; omega
  · rename_i n hn
    have : b - a < 0 := by rw [hn]; exact Int.negSucc_lt_zero n
    simp; omega
theorem intLt_lt (a b : Int) : intLt a b = decide (a < b) := by
  unfold intLt
  rw [intLe_le]
  rfl
theorem u8_beq (a b : UInt8) : Nat.beq a.toNat b.toNat = (a == b) := by
  rw [Bool.eq_iff_iff]
  simp [UInt8.toNat_inj]
theorem u8_blt (a b : UInt8) : Nat.blt a.toNat b.toNat = decide (a < b) := by
  rw [Bool.eq_iff_iff]
  simp [UInt8.lt_iff_toNat_lt]
theorem bytesEq_beq : ∀ a b : List UInt8, bytesEq a b = (a == b)
  | [], [] => rfl
  | [], _ :: _ => rfl
  | _ :: _, [] => rfl
  | a :: x, b :: y => by
    simp only [bytesEq, u8_beq]
    by_cases h : a = b
    · subst h; simp [bytesEq_beq x y]
    · have : (a == b) = false := by simpa using h
      simp [this]
theorem bytesLt_less : ∀ a b : List UInt8, bytesLt a b = Op.bytesLess a b
  | [], [] => rfl
  | [], _ :: _ => rfl
  | _ :: _, [] => rfl
  | a :: x, b :: y => by
    simp only [bytesLt, u8_beq, u8_blt, Op.bytesLess]
    by_cases h : a < b
    · simp [h]
    · by_cases e : a = b
      · subst e
        simp [bytesLt_less x y]
      · have : (a == b) = false := by simpa using e
        simp [h, this]

variable {P : Program} {ρ : Rho} {N : Bs} {h : Hp} {w : World}

theorem intOp_run {t : TypeId} {op : BinOp} {k : IntKind} {a b : Int} {v : Value} (hv : intOp op k a b = some v) (hs : op ≠ .shl) (hr : op ≠ .shr) :
    (binOp op t (.int k a) (.int k b)).run P w = .ok v w ∧ VR ρ v v := by
  cases op <;> simp only [intOp] at hv <;> first
    | (exact absurd rfl hs)
    | (exact absurd rfl hr)
    | (cases hv; done)
    | (injection hv with hv; subst hv; refine ⟨?_, by constructor⟩; simp [binOp, Op.intArith, Op.intCmp, intEq_beq, intLe_le, intLt_lt, bne]; done)
    | skip
  all_goals
    split at hv
    · cases hv
    · rename_i hb
      injection hv with hv
      subst hv
      rw [intEq_beq] at hb
      have hb' : b ≠ 0 := by simpa using hb
      refine ⟨?_, by constructor⟩
      simp [binOp, Op.intDiv, hb']

theorem strOp_run {op : BinOp} {x y : ByteArray} {v : Value} (hv : strOp op x y = some v) (t : TypeId) : (binOp op t (.string x) (.string y)).run P w = .ok v w ∧ VR ρ v v := by
  have hr : (binOp op t (.string x) (.string y)) = Op.stringOp op x y := by cases op <;> rfl
  rw [hr]
  cases op <;> simp only [strOp] at hv <;> first
    | (cases hv; done)
    | (injection hv with hv; subst hv; refine ⟨?_, by constructor⟩; simp [Op.stringOp, ByteArray.toList_eq, bytesEq_beq, bytesLt_less]; done)
    | skip
  split at hv
  · rename_i hl
    injection hv with hv
    subst hv
    refine ⟨?_, by constructor⟩
    have hl' : x.data.toList.length + y.data.toList.length ≤ 1000000000 := by simpa using hl
    have hx : x.size = x.data.toList.length := by rw [Array.length_toList]; rfl
    have hy : y.size = y.data.toList.length := by rw [Array.length_toList]; rfl
    have hm : ¬ (((x.size + y.size : Nat) : Int) > IntKind.i64.max) := by
      have : IntKind.i64.max = 9223372036854775807 := by decide
      rw [this, hx, hy]
      omega
    have he : x ++ y = ⟨(x.data.toList ++ y.data.toList).toArray⟩ := by
      rw [ByteArray.ext_iff]
      rw [ByteArray.data_append]
      apply Array.ext'
      simp
    simp only [Op.stringOp, if_neg hm, Sem.run_pure, he]
  · cases hv

/-! ### types -/
structure WfP (P : Program) : Prop where
  mixed : P.follows .mixedOrders = true

theorem run_und {t : TypeId} {d : TypeDesc} (h : P.underlying t = some d) : (underlying t).run P w = .ok d w := run_underlying h w
theorem run_info {t : TypeId} {i : TypeInfo} (h : P.info? t = some i) : (typeInfo t).run P w = .ok i w := run_typeInfo w h
theorem run_size {t : TypeId} {i : TypeInfo} (h : P.info? t = some i) : (sizeOf t).run P w = .ok i.size w := by simp [sizeOf, run_info h]
theorem size_some {t : TypeId} {s : Nat} (h : sizeOf' P t = some s) : (sizeOf t).run P w = .ok s w ∧ P.cellsOf t = s := by
  unfold sizeOf' at h
  split at h
  · rename_i i hi
    injection h with h
    subst h
    exact ⟨run_size hi, by simp [Program.cellsOf, hi]⟩
  · cases h
theorem zero_run {t : TypeId} {z : Value} (h : zero' P t = some z) : (zeroValue t).run P w = .ok z w ∧ VR ρ z z := by
  unfold zero' at h
  split at h
  · rename_i i hi
    split at h
    · rename_i v hv
      split at h
      · rename_i hp
        injection h with h
        subst h
        exact ⟨by simp [zeroValue, run_info hi, hv], plain_VR _ _ hp⟩
      · cases h
    · cases h
  · cases h

theorem part_run {t : TypeId} {cs : List Value} {cs' : Array Value} {off : Nat} {v : Value} (hv : part P t cs off = some v) (hc : VRs ρ cs cs'.toList) :
    ∃ v', (Go.part t cs' off).run P w = .ok v' w ∧ VR ρ v v' := by
  unfold part at hv
  cases hu : P.underlying t with
  | none => rw [hu] at hv; cases hv
  | some d =>
    have agg : ∀ i, P.info? t = some i → (∀ w, (isAgg t).run P w = .ok true w) → some (Value.agg ((cs.drop off).take i.size).toArray) = some v →
        ∃ v', (Go.part t cs' off).run P w = .ok v' w ∧ VR ρ v v' := by
      intro i hi ha e
      injection e with e
      subst e
      refine ⟨.agg (cs'.extract off (off + i.size)), by simp [Go.part, ha, run_size hi], .agg ?_⟩
      rw [Array.toList_extract]
      simp only [List.extract_eq_take_drop, Nat.add_sub_cancel_left]
      exact (hc.drop off).take i.size
    have cell : (∀ w, (isAgg t).run P w = .ok false w) → cs[off]? = some v → ∃ v', (Go.part t cs' off).run P w = .ok v' w ∧ VR ρ v v' := by
      intro ha e
      obtain ⟨v', h1, h2⟩ := hc.get e
      refine ⟨v', ?_, h2⟩
      have h1' : cs'[off]? = some v' := by simpa using h1
      simp [Go.part, ha, h1']
    rw [hu] at hv
    cases d <;> simp only [] at hv <;> first
      | exact cell (fun w => by simp [isAgg, run_und hu]) hv
      | (split at hv
         · rename_i i hi
           exact agg i hi (fun w => by simp [isAgg, run_und hu]) hv
         · cases hv)

/-! ### '==' -/
theorem eqFields_run (d : Nat) (xs ys : List Value) (xs' ys' : Array Value) (hx : VRs ρ xs xs'.toList) (hy : VRs ρ ys ys'.toList) (E : TypeId → Value → Value → Option Bool)
    (ih : ∀ t x y r x' y', E t x y = some r → VR ρ x x' → VR ρ y y' → (Op.equalIn d t x' y').run P w = .ok r w) : ∀ (fs : List Field) (r : Bool),
    fs.foldr (fun f k => match f.name == "_" with
          | true => k
          | false => match part P f.type xs f.offset, part P f.type ys f.offset with
            | some p, some q => match E f.type p q with
              | some true => k
              | r => r
            | _, _ => none) (some true) = some r → (Op.eqFields d xs' ys' fs).run P w = .ok r w
  | [], r, hr => by
    simp only [List.foldr_nil, Option.some.injEq] at hr
    subst hr
    simp [Op.eqFields]
  | f :: fs, r, hr => by
    simp only [List.foldr_cons] at hr
    simp only [Op.eqFields]
    by_cases hn : f.name = "_"
    · have h1 : (f.name == "_") = true := by simpa using hn
      rw [h1] at hr
      simp only [hn, ne_eq, not_true, if_false]
      exact eqFields_run d xs ys xs' ys' hx hy E ih fs r hr
    · have h1 : (f.name == "_") = false := by simpa using hn
      rw [h1] at hr
      simp only [] at hr
      simp only [ne_eq, hn, not_false_eq_true, if_true, Sem.run_bind]
      split at hr
      · rename_i p q hp hq
        obtain ⟨p', h2, h3⟩ := part_run (w := w) hp hx
        obtain ⟨q', h4, h5⟩ := part_run (w := w) hq hy
        rw [h2]
        simp only [Result.andThen_ok]
        rw [h4]
        simp only [Result.andThen_ok]
        split at hr
        · rename_i he
          rw [ih _ _ _ _ _ _ he h3 h5]
          simp only [Result.andThen_ok, Bool.not_true, Bool.false_eq_true, if_false]
          exact eqFields_run d xs ys xs' ys' hx hy E ih fs r hr
        · rename_i he
          cases hE : E f.type p q with
          | none => rw [hE] at hr; cases hr
          | some b =>
            cases b with
            | true => exact absurd hE (by simpa using he)
            | false =>
              rw [hE] at hr
              injection hr with hr
              subst hr
              rw [ih _ _ _ _ _ _ hE h3 h5]
              simp
      · cases hr

end Go.Ev

namespace Go.Ev
open Go.RowKit
variable {P : Program} {ρ : Rho} {N : Bs} {h : Hp} {w : World}

theorem nbeq_true {a b : Nat} (h : Nat.beq a b = true) : a = b := Nat.eq_of_beq_eq_true h
theorem nbeq_false {a b : Nat} (h : Nat.beq a b = false) : a ≠ b := Nat.ne_of_beq_eq_false h

theorem shape_of {b : Nat} {arr : Array Value} {e : TypeId} {fr : Nat × Nat} (hb : w.heap[b]? = some (.cells arr e fr)) : w.shape? b = some (e, arr.size) := by
  simp [World.shape?, hb]
theorem frozen_none {b o : Nat} {arr : Array Value} {e : TypeId} (hb : w.heap[b]? = some (.cells arr e (0, 0))) : w.frozen? ⟨b, o, none⟩ = false := by
  simp [World.frozen?, hb]

theorem sameAddr_run (H : HR P ρ N h w) {a b a' b' : Addr} {i j : Img} (ha : AR ρ a a' i) (hb : AR ρ b b' j) :
    (a.block = b.block → (sameAddr a' b').run P w = .ok (Nat.beq a.off b.off) w) ∧
    (a.block ≠ b.block → ∀ r q, h.row a.block = some r → h.row b.block = some q → r.fam = 0 → r.grown = false → q.grown = false → (sameAddr a' b').run P w = .ok false w) := by
  constructor
  · intro e
    have : i = j := by
      have h1 := ha.2.1
      have h2 := hb.2.1
      rw [e] at h1
      rw [h1] at h2
      exact Option.some.inj h2
    subst this
    rw [ha.fn, hb.fn]
    simp only [sameAddr, beq_self_eq_true, if_true, Sem.run_pure]
    congr 1
    rw [Bool.eq_iff_iff]
    simp
  · intro e r q hr hq hf hg1 hg2
    obtain ⟨arr, e1, fr, hw, hR, hget⟩ := H.row hr ha.2.1
    obtain ⟨brr, e2, fs, hv, hS, hget2⟩ := H.row hq hb.2.1
    have hne : i.b ≠ j.b := by
      intro e3
      obtain ⟨r0, q0, h1, h2, h3, h4, _⟩ := H.inj _ _ i j ha.2.1 hb.2.1 e e3
      rw [hget] at h1
      injection h1 with h1
      injection h1 with h1
      subst h1
      exact h4 hf
    obtain ⟨_, rfl⟩ := hR.2.2.2.2.2.1 hg1
    obtain ⟨_, rfl⟩ := hS.2.2.2.2.2.1 hg2
    have hbeq : (i.b == j.b) = false := by simpa using hne
    rw [ha.fn, hb.fn]
    simp [sameAddr, hbeq, frozen_none hw, frozen_none hv, noView, viewAt, shape_of hw, shape_of hv, mayBeOne, stringish]

set_option maxHeartbeats 4000000 in
theorem eqv_run (H : HR P ρ N h w) : ∀ (d : Nat) (t : TypeId) (x y : Value) (r : Bool), eqv P h d t x y = some r → ∀ D, d ≤ D → ∀ x' y', VR ρ x x' → VR ρ y y' → (Op.equalIn D t x' y').run P w = .ok r w := by
  intro d
  induction d with
  | zero => intro t x y r hr; simp [eqv] at hr
  | succ d ih =>
    intro t x y r hr D hD x' y' hx hy
    obtain ⟨D, rfl⟩ : ∃ k, D = k + 1 := ⟨D - 1, by omega⟩
    simp only [eqv] at hr
    split at hr
    · -- bool
      rename_i hu
      cases hx; cases hy
      injection hr with hr
      subst hr
      simp [Op.equalIn, run_und hu]
    · -- int
      rename_i hu
      cases hx; cases hy
      split at hr
      · rename_i hk
        have := kindEq_eq hk
        subst this
        injection hr with hr
        subst hr
        simp [Op.equalIn, run_und hu, intEq_beq]
      · cases hr
    · -- string
      rename_i hu
      cases hx; cases hy
      injection hr with hr
      subst hr
      rw [run_equalIn_string w D t _ _ hu]
      simp [ByteArray.toList_eq, bytesEq_beq]
    · -- pointer nil, any
      rename_i hu
      cases hx
      injection hr with hr
      subst hr
      cases hy <;> simp [Op.equalIn, run_und hu]
    · rename_i hu
      cases hx
      cases hy
      injection hr with hr
      subst hr
      simp [Op.equalIn, run_und hu]
    · -- two pointers
      rename_i hu
      cases hx with
      | ptr ha =>
        cases hy with
        | ptr hb =>
          split at hr
          · rename_i i _ _ hi
            split at hr
            · cases hr
            · rename_i hz
              have hz' : i.size ≠ 0 := nbeq_false hz
              have hs := sameAddr_run H ha hb
              split at hr
              · rename_i hbl
                split at hr
                · injection hr with hr
                  subst hr
                  simp [Op.equalIn, run_und hu, run_size hi, hz', hs.1 (nbeq_true hbl)]
                · cases hr
              · rename_i hbl
                split at hr
                · rename_i r0 q0 hr0 hq0
                  split at hr
                  · rename_i g1 g2 g3 g4
                    injection hr with hr
                    subst hr
                    have hne := hs.2 (nbeq_false hbl) r0 q0 hr0 hq0 (nbeq_true g1) g2 g4
                    simp [Op.equalIn, run_und hu, run_size hi, hz', hne]
                  · cases hr
                · cases hr
          · cases hr
    · rename_i hu
      cases hx; cases hy
      injection hr with hr
      subst hr
      simp [Op.equalIn, run_und hu]
    · rename_i hu
      cases hx; cases hy
      injection hr with hr
      subst hr
      simp [Op.equalIn, run_und hu]
    · rename_i hu
      cases hx; cases hy
      injection hr with hr
      subst hr
      simp [Op.equalIn, run_und hu]
    · -- two interface values
      rename_i tx vx ty vy hu
      cases hx with
      | iface hx =>
        cases hy with
        | iface hy =>
          split at hr
          · rename_i hb
            injection hr with hr
            subst hr
            have : tx ≠ ty := nbeq_false hb
            simp [Op.equalIn, run_und hu, this]
          · rename_i hb
            have : tx = ty := nbeq_true hb
            subst this
            split at hr
            · rename_i i hi
              split at hr
              · rename_i hc
                have := ih _ _ _ _ hr D (by omega) _ _ hx hy
                simp [Op.equalIn, run_und hu, run_info hi, hc, this]
              · cases hr
            · cases hr
    · -- structs
      rename_i fields xs ys hu
      cases hx with
      | agg hx =>
        cases hy with
        | agg hy =>
          split at hr
          · cases hr
          · rename_i hst
            have hfo : P.fieldsOf t = fields := by simp [Program.fieldsOf, hu]
            rw [run_equalIn_struct w D t _ _ (by rw [hfo]; exact hu) hst, hfo]
            exact eqFields_run D xs.toList ys.toList _ _ hx hy (eqv P h d) (fun t x y r x' y' he hx hy => ih t x y r he D (by omega) x' y' hx hy) _ _ hr
    · rename_i hu
      cases hx
      injection hr with hr
      subst hr
      cases hy <;> simp [Op.equalIn, run_und hu]
    · rename_i hu
      cases hy
      injection hr with hr
      subst hr
      cases hx <;> simp [Op.equalIn, run_und hu]
    · rename_i hu
      cases hx
      injection hr with hr
      subst hr
      cases hy <;> simp [Op.equalIn, run_und hu]
    · rename_i hu
      cases hy
      injection hr with hr
      subst hr
      cases hx <;> simp [Op.equalIn, run_und hu]
    · rename_i hu
      cases hx; cases hy
      injection hr with hr
      subst hr
      simp [Op.equalIn, run_und hu]
    · rename_i hu
      cases hx; cases hy
      injection hr with hr
      subst hr
      simp [Op.equalIn, run_und hu]
    · rename_i hu
      cases hx; cases hy
      injection hr with hr
      subst hr
      simp [Op.equalIn, run_und hu]
    · cases hr

theorem equal_run (H : HR P ρ N h w) {t : TypeId} {x y x' y' : Value} {r : Bool} (hr : eqv P h 40 t x y = some r) (hx : VR ρ x x') (hy : VR ρ y y') : (Op.equal t x' y').run P w = .ok r w :=
  eqv_run H 40 t x y r hr 10000 (by omega) x' y' hx hy

theorem eqv_float {d : Nat} {t : TypeId} {k k' : FloatKind} {n m : Nat} {r : Bool} (hr : eqv P h (d + 1) t (.float k n) (.float k' m) = some r) : False := by
  simp only [eqv] at hr
  split at hr <;> simp_all
theorem eqv_complex {d : Nat} {t : TypeId} {k k' : FloatKind} {n m n' m' : Nat} {r : Bool} (hr : eqv P h (d + 1) t (.complex k n m) (.complex k' n' m') = some r) : False := by
  simp only [eqv] at hr
  split at hr <;> simp_all

theorem eql_op (t : TypeId) {a b a' b' : Value} (ha : VR ρ a a') (hb : VR ρ b b') (hni : ∀ (k : IntKind) (n : Int) (k' : IntKind) (m : Int), a = .int k n → b = .int k' m → False)
    (hns : ∀ (s u : ByteArray), a = .string s → b = .string u → False) {r : Bool} (hr : eqv P h 40 t a b = some r) :
    binOp .eql t a' b' = (do pure (.bool (← Op.equal t a' b')) : Sem Value) ∧ binOp .neq t a' b' = (do pure (.bool (!(← Op.equal t a' b'))) : Sem Value) := by
  cases ha <;> cases hb <;> first
    | exact ⟨rfl, rfl⟩
    | (exact (hni _ _ _ _ rfl rfl).elim)
    | (exact (hns _ _ rfl rfl).elim)
    | (exact (eqv_float hr).elim)
    | (exact (eqv_complex hr).elim)

theorem binOp_run (H : HR P ρ N h w) {op : BinOp} {t : TypeId} {x y : Operand} {a b a' b' v : Value} (hv : binOp' P h op t x y a b = some v) (ha : VR ρ a a') (hb : VR ρ b b') :
    (do eqGuard op t x y a' b'; binOp op t a' b' : Sem Value).run P w = .ok v w ∧ VR ρ v v := by
  have guard : ∀ (op : BinOp), nilsApart x y a b = true → (eqGuard op t x y a' b').run P w = .ok () w := by
    intro op hn
    unfold eqGuard
    cases ha <;> cases hb <;> simp only [nilsApart] at hn <;> cases op <;> simp <;> try (cases hn; done)
    all_goals
      split at hn
      · simp
      · simp
      · cases hn
  unfold binOp' at hv
  split at hv
  · cases ha; cases hb
    split at hv
    · rename_i m
      injection hv with hv
      subst hv
      refine ⟨?_, by constructor⟩
      have hneg : ¬ ((m : Int) < 0) := by omega
      simp [eqGuard, binOp, Op.shift, hneg]
    · cases hv
  · cases ha; cases hb
    split at hv
    · rename_i m
      injection hv with hv
      subst hv
      refine ⟨?_, by constructor⟩
      have hneg : ¬ ((m : Int) < 0) := by omega
      simp [eqGuard, binOp, Op.shift, hneg]
    · cases hv
  · rename_i hs hr
    cases ha; cases hb
    split at hv
    · rename_i hk
      have := kindEq_eq hk
      subst this
      have := intOp_run (P := P) (ρ := ρ) (w := w) (t := t) hv (fun e => hs e) (fun e => hr e)
      refine ⟨?_, this.2⟩
      simp only [Sem.run_bind]
      have hg : ∀ (op : BinOp) (k k' : IntKind) (a b : Int), (eqGuard op t x y (.int k a) (.int k' b)).run P w = .ok () w := by
        intro op _ _ _ _
        unfold eqGuard
        cases op <;> simp
      rw [hg]
      exact this.1
    · cases hv
  · cases ha; cases hb
    have := strOp_run (P := P) (ρ := ρ) (w := w) hv t
    refine ⟨?_, this.2⟩
    simp only [Sem.run_bind]
    have hg : ∀ (op : BinOp) (a b : ByteArray), (eqGuard op t x y (.string a) (.string b)).run P w = .ok () w := by
      intro op _ _
      unfold eqGuard
      cases op <;> simp
    rw [hg]
    exact this.1
  · rename_i hni hns
    split at hv
    · rename_i hn
      split at hv
      · rename_i r hr
        injection hv with hv
        subst hv
        refine ⟨?_, by constructor⟩
        simp only [Sem.run_bind, guard _ hn, Result.andThen_ok]
        rw [(eql_op t ha hb hni hns hr).1]
        simp [equal_run H hr ha hb]
      · cases hv
    · cases hv
  · rename_i hni hns
    split at hv
    · rename_i hn
      split at hv
      · rename_i r hr
        injection hv with hv
        subst hv
        refine ⟨?_, by constructor⟩
        simp only [Sem.run_bind, guard _ hn, Result.andThen_ok]
        rw [(eql_op t ha hb hni hns hr).2]
        simp [equal_run H hr ha hb]
      · cases hv
    · cases hv
  · cases hv

end Go.Ev
