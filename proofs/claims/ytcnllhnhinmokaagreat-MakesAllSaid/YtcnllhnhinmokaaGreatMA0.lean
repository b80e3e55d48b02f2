/- The law MakesAll holds: for every grammar, rule and number, Makes answers with the document's lists in their order, where the document's answer speaks (at most 300 lists, of at most 6 items): part 1 of 6. -/
import Derived.Orders
import Derived.Below
import Derived.Laws.Sem
import Derived.ChangeKeysEq
import Derived.Laws.BytesArg
set_option linter.unusedVariables false
set_option linter.unusedSimpArgs false
set_option maxRecDepth 100000
set_option maxHeartbeats 16000000
theorem _root_.dcF{p:Prop}[Decidable p](h:¬p):decide p=false:=decide_eq_false h
theorem _root_.dcT{p:Prop}[Decidable p](h:p):decide p=true:=decide_eq_true h
theorem _root_.dcO{p:Prop}[Decidable p](h:decide p=true):p:=of_decide_eq_true h
theorem _root_.gEl.{u}{α:Type u}{l:List α}{i:Nat}(h:i<l.length):l[i]? = some l[i]:=List.getElem?_eq_getElem h
theorem _root_.lTr{n m k:Nat}(h:n≤m)(g:m≤k):n≤k:=Nat.le_trans h g
theorem _root_.lRf(n:Nat):n≤n:=Nat.le_refl n
theorem _root_.lSs(n:Nat):n<n+1:=Nat.lt_succ_self n
theorem _root_.lZr(n:Nat):0≤n:=Nat.zero_le n
theorem _root_.lTl{n m k:Nat}(h:n<m)(g:m≤k):n<k:=Nat.lt_of_lt_of_le h g
theorem _root_.mOg.{u}{α:Type u}{l:List α}{i:Nat}{a:α}(h:l[i]? = some a):a∈l:=List.mem_of_getElem? h
theorem _root_.mCo.{u}{α:Type u}{b:α}{l:List α}{a:α}:a∈b::l↔a=b∨a∈l:=List.mem_cons
theorem _root_.lNz(n:Nat):¬n<0:=Nat.not_lt_zero n
theorem _root_.gC0.{u}{α:Type u}{a:α}{l:List α}:(a::l)[0]? = some a:=rfl
theorem _root_.gC1.{u}{α:Type u}{a:α}{l:List α}{i:Nat}:(a::l)[i+1]? = l[i]?:=rfl
section
namespace Go.Ev
inductive Tr (α:Type) where
 | lf:Tr α
 | nd:Option α->Tr α->Tr α->Tr α
def Tr.get {α:Type}:Tr α->Nat->Option α
 | .lf,_=>none
 | .nd o l r,k=>match k with
   | 0=>o
   | k+1=>match Nat.beq (k % 2) 0 with
     | true=>l.get (k / 2)
     | false=>r.get (k / 2)
def Tr.set {α:Type}:Nat->Tr α->Nat->α->Tr α
 | 0,t,_,_=>t
 | f+1,t,k,v=>match t with
   | .lf=>match k with
     | 0=>.nd (some v) .lf .lf
     | k+1=>match Nat.beq (k % 2) 0 with
       | true=>.nd none (Tr.set f .lf (k / 2) v) .lf
       | false=>.nd none .lf (Tr.set f .lf (k / 2) v)
   | .nd o l r=>match k with
     | 0=>.nd (some v) l r
     | k+1=>match Nat.beq (k % 2) 0 with
       | true=>.nd o (Tr.set f l (k / 2) v) r
       | false=>.nd o l (Tr.set f r (k / 2) v)
def Tr.put {α:Type} (t:Tr α) (k:Nat) (v:α):Tr α:=Tr.set (k+1) t k v
structure Row where
 c:List Value
 e:TypeId
 fam:Nat
 base:Nat
 grown:Bool
inductive ak where
 | cells (r:Row)
 | map (es:List MapEntry) (clock:Nat)
 | sIter (s:ByteArray) (pos:Nat)
 | mIter (map:Option Nat) (since:Nat) (seen:List Nat) (stepped:Nat)
structure Mem where
 b:Nat
 lo:Nat
 hi:Nat
structure Hp where
 objs:Tr ak
 next:Nat
 fams:Tr (List Mem)
 nfam:Nat
 base:Nat
 ro:Nat->Nat->Option Value
def Hp.nil:Hp:=⟨.lf,0,.lf,1,0,fun _ _=>none⟩
def Hp.row (h:Hp) (b:Nat):Option Row :=
 match h.objs.get b with
 | some (.cells r)=>match r.fam with
   | 0=>some r
   | f+1=>match h.fams.get (f+1) with
     | some l=>match l.any (fun m=>Nat.beq m.b b) with
       | true=>some r
       | false=>Option.none
     | Option.none=>Option.none
 | _=>Option.none
def Hp.map? (h:Hp) (b:Nat):Option (List MapEntry×Nat) :=
 match h.objs.get b with
 | some (.map es k)=>some (es,k)
 | _=>Option.none
def Hp.put (h:Hp) (b:Nat) (o:ak):Hp:={ h with objs:=h.objs.put b o }
def Hp.new (h:Hp) (o:ak):Option (Nat×Hp):=some (h.next,{ h with objs:=h.objs.put h.next o,next:=h.next+1 })
def Hp.newRow (h:Hp) (e:TypeId) (c:List Value):Option (Addr×Hp) :=
 match h.new (.cells ⟨c,e,0,0,false⟩) with
 | some (b,h)=>some (⟨b,0,Option.none⟩,h)
 | Option.none=>Option.none
def bU:List Value->Nat->Option (List Value)
 | _,0=>some []
 | [],_+1=>none
 | x::l,n+1=>match bU l n with
   | some r=>some (x::r)
   | none=>none
def bC:List Value->Nat->List Value->Option (List Value)
 | c,0,[]=>some c
 | _::c,0,v::vs=>match bC c 0 vs with
   | some r=>some (v::r)
   | none=>none
 | x::c,o+1,vs=>match bC c o vs with
   | some r=>some (x::r)
   | none=>none
 | [],0,_::_=>none
 | [],_+1,_=>none
def oneCell:Value->Bool
 | .agg _|.tuple _=>false
 | _=>true
def jU (f:Nat->Option Value):Nat->Nat->Option (List Value)
 | _,0=>some []
 | o,n+1=>match f o,jU f (o+1) n with
   | some v,some l=>some (v::l)
   | _,_=>none
def Hp.load (h:Hp) (a:Addr):Option Value :=
 match a.spot with
 | some _=>none
 | Option.none=>match Nat.blt a.block h.base with
   | true=>h.ro a.block a.off
   | false=>match h.row a.block with
     | some r=>r.c[a.off]?
     | Option.none=>Option.none
def Hp.loads (h:Hp) (a:Addr) (n:Nat):Option (List Value) :=
 match n with
 | 0=>some []
 | n+1=>match a.spot with
   | some _=>Option.none
   | Option.none=>match Nat.blt a.block h.base with
     | true=>jU (h.ro a.block) a.off (n+1)
     | false=>match h.row a.block with
       | some r=>bU (r.c.drop a.off) (n+1)
       | Option.none=>Option.none
def qN (l:List Mem) (b lo hi:Nat):List Mem :=
 l.filter fun m=>Nat.beq m.b b||Nat.ble hi m.lo||Nat.ble m.hi lo
def Hp.stores (h:Hp) (a:Addr) (vs:List Value):Option Hp :=
 match vs with
 | []=>some h
 | _::_=>match a.spot with
   | some _=>Option.none
   | Option.none=>match vs.all oneCell with
     | false=>Option.none
     | true=>match h.row a.block with
       | Option.none=>Option.none
       | some r=>match bC r.c a.off vs with
         | Option.none=>Option.none
         | some c =>
           let h':=h.put a.block (.cells { r with c:=c })
           match r.fam with
           | 0=>some h'
           | f+1=>match h.fams.get (f+1) with
             | Option.none=>Option.none
             | some l=>some { h' with fams:=h.fams.put (f+1) (qN l a.block (r.base+a.off) (r.base+a.off+vs.length)) }
def plain:Nat->Value->Bool
 | _,.bool _|_,.int .. | _,.float .. | _,.complex .. | _,.string _|_,.nilFunc|_,.nilIface=>true
 | _,.pointer none|_,.map none|_,.chan none|_,.slice none 0 0=>true
 | n+1,.agg cs=>cs.toList.all (plain n)
 | n+1,.tuple cs=>cs.toList.all (plain n)
 | n+1,.iface _ v=>plain n v
 | _,_=>false
def ai:Value:=.tuple #[]
structure A where
 tmps:Tr Value
 n:Nat
def A.get (a:A) (t:Nat):Value:=match a.tmps.get t with
 | some v=>v
 | none=>ai
def A.ev (a:A):Operand->Option Value
 | .tmp t=>some (a.get t)
 | .const v=>match plain 9 v with
   | true=>some v
   | false=>none
 | .global _=>none
 | .func f=>some (.func (.func f) #[] #[])
def A.put (a:A) (d:Option Nat) (v:Value):Option A :=
 match d with
 | none=>some a
 | some d=>match Nat.blt d a.n with
   | true=>some { a with tmps:=a.tmps.put d v }
   | false=>none
def eC:List UInt8->List UInt8->Bool
 | [],[]=>true
 | a::x,b::y=>match Nat.beq a.toNat b.toNat with
   | true=>eC x y
   | false=>false
 | _,_=>false
def dQ:List UInt8->List UInt8->Bool
 | _,[]=>false
 | [],_::_=>true
 | a::x,b::y=>match Nat.blt a.toNat b.toNat with
   | true=>true
   | false=>match Nat.beq a.toNat b.toNat with
     | true=>dQ x y
     | false=>false
def fO:IntKind->IntKind->Bool
 | .i8,.i8|.i16,.i16|.i32,.i32|.i64,.i64|.u8,.u8|.u16,.u16|.u32,.u32|.u64,.u64=>true
 | _,_=>false
def gr:Int->Int->Bool
 | .ofNat a,.ofNat b=>Nat.beq a b
 | .negSucc a,.negSucc b=>Nat.beq a b
 | _,_=>false
def rR (a b:Int):Bool:=match b - a with
 | .ofNat _=>true
 | .negSucc _=>false
def pA (a b:Int):Bool:=rR (a+1) b
def part (P:Program) (t:TypeId) (cs:List Value) (off:Nat):Option Value :=
 match P.underlying t with
 | some (.struct _)|some (.array _ _)=>match P.info? t with
   | some i=>some (.agg ((cs.drop off).take i.size).toArray)
   | none=>none
 | some _=>cs[off]?
 | none=>none
def eqv (P:Program) (h:Hp):Nat->TypeId->Value->Value->Option Bool
 | 0,_,_,_=>none
 | d+1,t,x,y=>match P.underlying t,x,y with
   | some .bool,.bool a,.bool b=>some (a==b)
   | some (.int _),.int k a,.int k' b=>match fO k k' with
     | true=>some (gr a b)
     | false=>none
   | some .string,.string a,.string b=>some (eC a.data.toList b.data.toList)
   | some (.pointer _),.pointer none,.pointer b=>some b.isNone
   | some (.pointer _),.pointer (some _),.pointer none=>some false
   | some (.pointer e),.pointer (some a),.pointer (some b)=>match a.spot,b.spot,P.info? e with
     | none,none,some i=>match Nat.beq i.size 0 with
       | true=>none
       | false=>match Nat.beq a.block b.block with
         | true=>match h.row a.block with
           | some _=>some (Nat.beq a.off b.off)
           | none=>none
         | false=>match h.row a.block,h.row b.block with
           | some r,some q=>match Nat.beq r.fam 0,r.grown,Nat.beq q.fam 0,q.grown with
             | true,false,true,false=>some false
             | _,_,_,_=>none
           | _,_=>none
     | _,_,_=>none
   | some (.interface _),.nilIface,.nilIface=>some true
   | some (.interface _),.nilIface,.iface _ _|some (.interface _),.iface _ _,.nilIface=>some false
   | some (.interface _),.iface tx vx,.iface ty vy=>match Nat.beq tx ty with
     | false=>some false
     | true=>match P.info? tx with
       | some i=>match i.comparable with
         | true=>eqv P h d tx vx vy
         | false=>none
       | none=>none
   | some (.struct fields),.agg xs,.agg ys=>match P.stoodInHeld t with
     | true=>none
     | false=>fields.toList.foldr (fun f k=>match f.name == "_" with
      | true=>k
      | false=>match part P f.type xs.toList f.offset,part P f.type ys.toList f.offset with
        | some p,some q=>match eqv P h d f.type p q with
          | some true=>k
          | r=>r
        | _,_=>none) (some true)
   | some (.array 2 e),.agg xs,.agg ys=>match P.info? e with
     | some i=>match part P e xs.toList (0*i.size),part P e ys.toList (0*i.size),part P e xs.toList (1*i.size),part P e ys.toList (1*i.size) with
       | some p,some q,some p1,some q1=>match eqv P h d e p q with
         | some true=>eqv P h d e p1 q1
         | r=>r
       | _,_,_,_=>none
     | none=>none
   | some (.slice _),.slice none _ _,.slice b _ _=>some b.isNone
   | some (.slice _),.slice (some _) _ _,.slice none _ _=>some false
   | some (.map _ _),.map none,.map b=>some b.isNone
   | some (.map _ _),.map (some _),.map none=>some false
   | some (.func _ _ _),.nilFunc,.nilFunc=>some true
   | some (.func _ _ _),.nilFunc,.func _ _ _|some (.func _ _ _),.func _ _ _,.nilFunc=>some false
   | _,_,_=>none
def iB (op:BinOp) (k:IntKind) (a b:Int):Option Value :=
 match op with
 | .add=>some (.int k (k.wrap (a+b)))
 | .sub=>some (.int k (k.wrap (a - b)))
 | .mul=>some (.int k (k.wrap (a*b)))
 | .quo=>match gr b 0 with
   | true=>none
   | false=>some (.int k (k.wrap (a.tdiv b)))
 | .rem=>match gr b 0 with
   | true=>none
   | false=>some (.int k (a.tmod b))
 | .eql=>some (.bool (gr a b))
 | .neq=>some (.bool (!gr a b))
 | .lss=>some (.bool (pA a b))
 | .leq=>some (.bool (rR a b))
 | .gtr=>some (.bool (pA b a))
 | .geq=>some (.bool (rR b a))
 | _=>none
def nt (op:BinOp) (x y:ByteArray):Option Value :=
 match op with
 | .add=>match Nat.ble (x.data.toList.length+y.data.toList.length) 1000000000 with
   | true=>some (.string ⟨(x.data.toList++y.data.toList).toArray⟩)
   | false=>none
 | .eql=>some (.bool (eC x.data.toList y.data.toList))
 | .neq=>some (.bool (!eC x.data.toList y.data.toList))
 | .lss=>some (.bool (dQ x.data.toList y.data.toList))
 | .leq=>some (.bool (dQ x.data.toList y.data.toList||eC x.data.toList y.data.toList))
 | .gtr=>some (.bool (!(dQ x.data.toList y.data.toList||eC x.data.toList y.data.toList)))
 | .geq=>some (.bool (!dQ x.data.toList y.data.toList))
 | _=>none
def gF (x y:Operand) (a b:Value):Bool :=
 match a,b with
 | .nilIface,.nilIface=>match x,y with
   | .const _,_=>true
   | _,.const _=>true
   | _,_=>false
 | .agg _,.agg _=>false
 | _,_=>true
def be (P:Program) (h:Hp) (op:BinOp) (t:TypeId) (x y:Operand) (a b:Value):Option Value :=
 match op,a,b with
 | .shl,.int k n,.int _ m=>match m with
   | .ofNat m=>some (.int k (k.wrap (n*2 ^ min m k.bits)))
   | .negSucc _=>none
 | .shr,.int k n,.int _ m=>match m with
   | .ofNat m=>some (.int k (n.fdiv (2 ^ min m k.bits)))
   | .negSucc _=>none
 | _,.int k n,.int k' m=>match fO k k' with
   | true=>iB op k n m
   | false=>none
 | _,.string s,.string u=>nt op s u
 | .eql,a,b=>match gF x y a b with
   | true=>match eqv P h 40 t a b with
     | some r=>some (.bool r)
     | none=>none
   | false=>none
 | .neq,a,b=>match gF x y a b with
   | true=>match eqv P h 40 t a b with
     | some r=>some (.bool (!r))
     | none=>none
   | false=>none
 | _,_,_=>none
def u9 (op:UnOp) (x:Value):Option Value :=
 match op,x with
 | .neg,.int k n=>some (.int k (k.wrap (0 - n)))
 | .not,.bool b=>some (.bool (!b))
 | _,_=>none
def kl:List Value->Option (List UInt8)
 | []=>some []
 | .int .u8 n::l=>match kl l with
   | some r=>some (UInt8.ofNat n.toNat::r)
   | none=>none
 | _::_=>none
def Hp.grownRow (h:Hp) (e:TypeId) (c:List Value):Option (Addr×Hp) :=
 match h.new (.cells ⟨c,e,0,0,true⟩) with
 | some (b,h)=>some (⟨b,0,none⟩,h)
 | none=>none
def aA (P:Program) (t:TypeId):Option Nat:=match P.info? t with
 | some i=>some i.size
 | none=>none
def nu (P:Program) (h:Hp) (src dst:TypeId) (x:Value):Option (Value×Hp) :=
 match P.underlying src,P.underlying dst,x with
 | some _,some (.int k),.int _ n=>some (.int k (k.wrap n),h)
 | some _,some .string,.string s=>some (.string s,h)
 | some _,some (.slice e),.string s=>match P.underlying e with
   | some (.int .u8)=>match Nat.ble s.data.toList.length 1000000,aA P e with
     | true,some 1=>match h.grownRow e (s.data.toList.map fun b=>.int .u8 b.toNat) with
       | some (a,h)=>some (.slice (some a) s.data.toList.length s.data.toList.length,h)
       | none=>none
     | _,_=>none
   | _=>none
 | some (.slice e),some .string,.slice none _ _=>match P.underlying e with
   | some (.int .u8)=>some (.string ⟨#[]⟩,h)
   | _=>none
 | some (.slice e),some .string,.slice (some a) n _=>match P.underlying e with
   | some (.int .u8)=>match h.loads a n with
     | some l=>match kl l with
       | some bs=>some (.string ⟨bs.toArray⟩,h)
       | none=>none
     | none=>none
   | _=>none
 | _,_,_=>none
def bE (P:Program) (t:TypeId):Option Value :=
 match P.info? t with
 | some i=>match i.zero with
   | some v=>match plain 9 v with
     | true=>some v
     | false=>none
   | none=>none
 | none=>none
def aV (P:Program) (h:Hp) (t:TypeId) (a:Addr):Option Value :=
 match P.underlying t with
 | some (.struct _)|some (.array _ _)=>match P.info? t with
   | some i=>match h.loads a i.size with
     | some l=>some (.agg l.toArray)
     | none=>none
   | none=>none
 | some _=>h.load a
 | none=>none
def bc (P:Program) (h:Hp) (t:TypeId) (a:Addr) (v:Value):Option Hp :=
 match P.info? t with
 | some i=>match Nat.beq v.cells.toList.length i.size with
   | true=>h.stores a v.cells.toList
   | false=>none
 | none=>none
def cM (place:Nat->Option (Nat×Nat)) (cells:List Value):List (Nat×Value)->Option (List Value)
 | []=>some cells
 | (i,v)::rest=>match place i with
   | none=>none
   | some (off,size)=>match Nat.beq v.cells.toList.length size with
     | false=>none
     | true=>match bC cells off v.cells.toList with
       | some c=>cM place c rest
       | none=>none
def evPairs (a:A):List (Nat×Operand)->Option (List (Nat×Value))
 | []=>some []
 | (i,x)::r=>match a.ev x,evPairs a r with
   | some v,some l=>some ((i,v)::l)
   | _,_=>none
def evList (a:A):List Operand->Option (List Value)
 | []=>some []
 | x::r=>match a.ev x,evList a r with
   | some v,some l=>some (v::l)
   | _,_=>none
def d3 (P:Program) (t:TypeId) (parts:List (Nat×Value)):Option Value :=
 match bE P t with
 | none=>none
 | some z=>match P.underlying t with
   | some (.struct fields)=>match fields.toList.all (fun f=>(P.info? f.type).isSome) with
     | true=>match cM (fun i=>match fields.toList[i]? with
       | some f=>match aA P f.type with
         | some s=>some (f.offset,s)
         | none=>none
       | none=>none) z.cells.toList parts with
       | some c=>some (.agg c.toArray)
       | none=>none
     | false=>none
   | some (.array _ e)=>match aA P e with
     | some s=>match cM (fun i=>some (i*s,s)) z.cells.toList parts with
       | some c=>some (.agg c.toArray)
       | none=>none
     | none=>none
   | _=>none
def aC (z:List Value):Nat->List Value
 | 0=>[]
 | n+1=>z++aC z n
def aY (P:Program) (t:TypeId) (len:Nat) (parts:List (Nat×Value)):Option (ak×(Nat->Value)) :=
 match P.underlying t with
 | some (.slice e)=>match aA P e,bE P e with
   | some s,some z=>match Nat.beq z.cells.toList.length s,Nat.blt 0 s,Nat.ble (len*s) 100000 with
     | true,true,true=>match cM (fun i=>some (i*s,s)) (aC z.cells.toList len) parts with
       | some c=>some (.cells ⟨c,e,0,0,false⟩,fun b=>.slice (some ⟨b,0,none⟩) len len)
       | none=>none
     | _,_,_=>none
   | _,_=>none
 | _=>none
def gG:Value->Option Nat
 | .int _ (.ofNat n)=>some n
 | _=>none
def fh (P:Program) (t:TypeId) (l c:Value):Option (ak×(Nat->Value)) :=
 match P.underlying t,gG l,gG c with
 | some (.slice e),some l,some c=>match P.info? e,bE P e with
   | some i,some z=>match Nat.beq z.cells.toList.length i.size,Nat.blt 0 i.size,Nat.ble (c*i.size) 100000,Nat.ble (c*i.bytes) 100000000,Nat.ble l c with
     | true,true,true,true,true=>match Nat.ble c 100000 with
       | true=>some (.cells ⟨aC z.cells.toList c,e,0,0,false⟩,fun b=>.slice (some ⟨b,0,none⟩) l c)
       | false=>none
     | _,_,_,_,_=>none
   | _,_=>none
 | _,_,_=>none
def ca (x:Option Value) (d top:Nat):Option Nat :=
 match x with
 | none=>some d
 | some (.int _ (.ofNat n))=>match Nat.ble n top with
   | true=>some n
   | false=>none
 | some _=>none
def dn (P:Program) (h:Hp) (t:TypeId) (x:Value) (lo hi mx:Option Value):Option Value :=
 match P.underlying t,x with
 | some .string,.string s=>match mx with
   | some _=>none
   | none=>match ca hi s.data.toList.length s.data.toList.length with
     | some hh=>match ca lo 0 hh with
       | some l=>some (.string ⟨((s.data.toList.take hh).drop l).toArray⟩)
       | none=>none
     | none=>none
 | some (.slice e),.slice b len cap=>match aA P e with
   | none=>none
   | some sz =>
     let ok:Bool:=match b with
      | none=>true
      | some a=>match Nat.blt a.block h.base with
        | true=>a.spot.isNone
        | false=>match a.spot,h.row a.block with
          | none,some r=>match r.grown with
            | true=>match aA P r.e with
              | some z=>Nat.beq z sz
              | none=>false
            | false=>true
          | _,_=>false
     match ok,Nat.ble len cap with
     | false,_=>none
     | true,false=>none
     | true,true=>match mx with
       | some _=>match ca mx cap cap with
         | some m=>match hi with
           | none=>none
           | some _=>match ca hi len m with
             | some hh=>match ca lo 0 hh with
               | some l=>some (.slice (b.map (·.add (l*sz))) (hh - l) (m - l))
               | none=>none
             | none=>none
         | none=>none
       | none=>match ca hi len cap with
         | some hh=>match ca lo 0 hh with
           | some l=>some (.slice (b.map (·.add (l*sz))) (hh - l) (cap - l))
           | none=>none
         | none=>none
 | some (.array n e),.pointer (some a)=>match aA P e,a.spot,h.row a.block with
   | some sz,none,some r=>match r.grown,mx with
     | false,none=>match ca hi n n with
       | some hh=>match ca lo 0 hh with
         | some l=>some (.slice (some (a.add (l*sz))) (hh - l) (n - l))
         | none=>none
       | none=>none
     | _,_=>none
   | _,_,_=>none
 | _,_=>none
def aI (P:Program) (t:TypeId) (x:Value) (f:Nat):Option Value :=
 match P.underlying t,x with
 | some (.struct fields),.pointer (some a)=>match fields.toList[f]?,a.spot with
   | some f,none=>match aA P f.type with
     | some (_+1)=>some (.pointer (some (a.add f.offset)))
     | _=>none
   | _,_=>none
 | _,_=>none
def ap (P:Program) (t:TypeId) (x ix:Value):Option Value :=
 match P.underlying t,x,gG ix with
 | some (.slice e),.slice (some a) len _,some i=>match Nat.blt i len,aA P e,a.spot with
   | true,some s,none=>some (.pointer (some (a.add (i*s))))
   | _,_,_=>none
 | some (.array len e),.pointer (some a),some i=>match Nat.blt i len,aA P e,a.spot with
   | true,some s,none=>some (.pointer (some (a.add (i*s))))
   | _,_,_=>none
 | _,_,_=>none
def jV (P:Program) (t:TypeId) (x ix:Value):Option Value :=
 match P.underlying t,x,gG ix with
 | some (.array len e),.agg cs,some i=>match Nat.blt i len,aA P e with
   | true,some s=>part P e cs.toList (i*s)
   | _,_=>none
 | some .string,.string s,some i=>match s.data.toList[i]? with
   | some b=>some (.int .u8 b.toNat)
   | none=>none
 | _,_,_=>none
def cH (P:Program):Nat->TypeId->Value->Bool
 | 0,_,_=>false
 | d+1,t,v=>match P.underlying t,v with
   | some (.interface _),.nilIface=>true
   | some (.interface _),.iface u x=>match P.info? u with
     | some i=>match i.comparable with
       | true=>cH P d u x
       | false=>false
     | none=>false
   | some (.struct fields),.agg cs=>fields.toList.all fun f=>match f.name == "_" with
     | true=>true
     | false=>match part P f.type cs.toList f.offset with
       | some p=>cH P d f.type p
       | none=>false
   | some (.array 2 e),.agg cs=>match P.info? e with
     | some i=>match part P e cs.toList (0*i.size),part P e cs.toList (1*i.size) with
       | some p,some q=>cH P d e p&&cH P d e q
       | _,_=>false
     | none=>false
   | some (.interface _),_|some (.array _ _),_|some (.struct _),_=>false
   | some _,_=>true
   | none,_=>false
def fA (P:Program) (h:Hp) (t:TypeId) (k:Value):List MapEntry->Nat->Option (Option (Nat×Value))
 | [],_=>some none
 | e::es,i=>match eqv P h 40 t k e.key with
   | some true=>some (some (i,e.val))
   | some false=>fA P h t k es (i+1)
   | none=>none
def ef (h:Hp):Value->Option (List MapEntry)
 | .map none=>some []
 | .map (some r)=>match h.map? r with
   | some (es,_)=>some es
   | none=>none
 | _=>none
def dR (P:Program) (h:Hp) (t:TypeId) (x k:Value) (ok:Bool):Option Value :=
 match P.underlying t with
 | some (.map kt et)=>match ef h x,cH P 40 kt k with
   | some es,true=>match fA P h kt k es 0 with
     | some (some (_,v))=>some (if ok then .tuple #[v,.bool true] else v)
     | some none=>match bE P et with
       | some z=>some (if ok then .tuple #[z,.bool false] else z)
       | none=>none
     | none=>none
   | _,_=>none
 | _=>none
def dS:Nat->Value->Value->Bool
 | _,.bool a,.bool b=>a==b
 | _,.int j a,.int k b=>fO j k&&gr a b
 | _,.string a,.string b=>eC a.data.toList b.data.toList
 | _,.nilIface,.nilIface=>true
 | n+1,.iface t v,.iface u w=>Nat.beq t u&&dS n v w
 | n+1,.agg a,.agg b=>Nat.beq a.toList.length b.toList.length&&(a.toList.zip b.toList).all fun (x,y)=>dS n x y
 | _,_,_=>false
def setAt (f:MapEntry->MapEntry):List MapEntry->Nat->List MapEntry
 | [],_=>[]
 | e::es,0=>f e::es
 | e::es,i+1=>e::setAt f es i
def bF (P:Program) (h:Hp) (t:TypeId) (m k v:Value):Option Hp :=
 match P.underlying t,m with
 | some (.map kt _),.map (some r)=>match h.map? r,cH P 40 kt k with
   | some (es,clock),true=>match fA P h kt k es 0 with
     | some (some (i,_))=>match es[i]? with
       | some e=>match dS 40 e.key k with
         | true=>some (h.put r (.map (setAt (fun e=>{ e with key:=k,val:=v }) es i) clock))
         | false=>none
       | none=>none
     | some none=>some (h.put r (.map (es++[⟨k,v,clock⟩]) (clock+1)))
     | none=>none
   | _,_=>none
 | _,_=>none
def lA (P:Program) (h:Hp) (t:TypeId) (m k:Value):Option (Value×Hp) :=
 match P.underlying t,m with
 | some (.map kt et),.map (some r)=>match h.map? r,cH P 40 kt k with
   | some (es,clock),true=>match fA P h kt k es 0 with
     | some (some (i,v))=>match es[i]? with
       | some e=>match dS 40 e.key k with
         | true=>some (.tuple #[v,.int .i64 e.born],h.put r (.map (setAt (fun e=>{ e with key:=k }) es i) clock))
         | false=>none
       | none=>none
     | some none=>match bE P et with
       | some z=>some (.tuple #[z,.int .i64 clock],h.put r (.map (es++[⟨k,z,clock⟩]) (clock+1)))
       | none=>none
     | none=>none
   | _,_=>none
 | _,_=>none
def lB (b:Nat):List MapEntry->Nat->Option Nat
 | [],_=>none
 | e::es,i=>match Nat.beq e.born b with
   | true=>some i
   | false=>lB b es (i+1)
def gu (h:Hp) (m s v:Value):Option Hp :=
 match m,gG s with
 | .map (some r),some b=>match h.map? r with
   | some (es,clock)=>match lB b es 0 with
     | some i=>some (h.put r (.map (setAt (fun e=>{ e with val:=v }) es i) clock))
     | none=>none
   | none=>none
 | _,_=>none
def qO (P:Program) (h:Hp) (t:TypeId) (m k:Value):Option (Value×Hp) :=
 match P.underlying t,m with
 | some (.map kt _),.map none=>match cH P 40 kt k with
   | true=>some (.tuple #[],h)
   | false=>none
 | some (.map kt _),.map (some r)=>match h.map? r,cH P 40 kt k with
   | some (es,clock),true=>match fA P h kt k es 0 with
     | some (some (i,_))=>some (.tuple #[],h.put r (.map (es.eraseIdx i) clock))
     | some none=>some (.tuple #[],h)
     | none=>none
   | _,_=>none
 | _,_=>none
def range' (P:Program) (h:Hp) (t:TypeId) (x:Value):Option (Value×Hp) :=
 match P.underlying t,x with
 | some .string,.string s=>match h.new (.sIter s 0) with
   | some (b,h)=>some (.pointer (some ⟨b,0,none⟩),h)
   | none=>none
 | some (.map _ _),.map none=>match h.new (.mIter none 0 [] 0) with
   | some (b,h)=>some (.pointer (some ⟨b,0,none⟩),h)
   | none=>none
 | some (.map _ _),.map (some m)=>match h.map? m with
   | some (_,clock)=>match h.new (.mIter (some m) clock [] clock) with
     | some (b,h)=>some (.pointer (some ⟨b,0,none⟩),h)
     | none=>none
   | none=>none
 | _,_=>none
def xO (h:Hp) (it:Value) (isString:Bool):Option (Value×Hp) :=
 match it with
 | .pointer (some a)=>match a.off,h.objs.get a.block,isString with
   | 0,some (.sIter s pos),true=>match Nat.blt pos s.data.toList.length with
     | true=>match (Utf8.decode s pos) with
       | (c,w)=>some (.tuple #[.bool true,.int .i64 pos,.int .i32 c],h.put a.block (.sIter s (pos+w)))
     | false=>some (.tuple #[.bool false],h)
   | 0,some (.mIter none _ _ _),false=>some (.tuple #[.bool false],h)
   | 0,some (.mIter (some m) since seen last),false=>match h.map? m with
     | some (es,clock)=>match seen.isEmpty||es.isEmpty || !(es.all fun e=>Nat.ble last e.born) with
       | false=>none
       | true =>
         let left:=es.filter fun e => !(seen.any fun b=>Nat.beq b e.born)
         let old:=left.filter fun e=>Nat.blt e.born since
         let new:=left.filter fun e=>Nat.ble since e.born
         match old,new with
         | [],[]=>some (.tuple #[.bool false],h)
         | [e],[]=>some (.tuple #[.bool true,e.key,e.val],h.put a.block (.mIter (some m) since (seen++[e.born]) clock))
         | _,_=>none
     | none=>none
   | _,_,_=>none
 | _=>none
def tL (h:Hp) (it:Value):Option Value :=
 match it with
 | .pointer (some a)=>match a.off,h.objs.get a.block with
   | 0,some (.mIter (some m) _ seen stepped)=>match seen.getLast?,h.map? m with
     | some b,some (es,clock)=>match Nat.beq clock stepped,lB b es 0 with
       | true,some i=>match es[i]? with
         | some e=>some (.tuple #[e.key,e.val])
         | none=>none
       | _,_=>none
     | _,_=>none
   | _,_=>none
 | _=>none
def iF (P:Program) (x:Value) (asserted:TypeId) (ok:Bool):Option Value :=
 match P.underlying asserted,x with
 | some (.interface want),.iface t v=>match P.info? t with
   | some i=>match want.toList.all fun (n,s)=>i.methods.toList.any fun m=>m.name==n&&Nat.beq m.sig s with
     | true=>some (if ok then .tuple #[.iface t v,.bool true] else .iface t v)
     | false=>match ok,bE P asserted with
       | true,some z=>some (.tuple #[z,.bool false])
       | _,_=>none
   | none=>none
 | some _,.nilIface=>match ok,bE P asserted with
   | true,some z=>some (.tuple #[z,.bool false])
   | _,_=>none
 | some (.interface _),_=>none
 | some _,.iface t v=>match Nat.beq t asserted with
   | true=>some (if ok then .tuple #[v,.bool true] else v)
   | false=>match ok,bE P asserted with
     | true,some z=>some (.tuple #[z,.bool false])
     | _,_=>none
 | _,_=>none
def d7:Value->Option Nat
 | .slice _ n _=>some n
 | .string s=>some s.data.toList.length
 | _=>none
def bS (h:Hp) (size n:Nat):Value->Option (List Value)
 | .slice (some a) _ _=>h.loads a (n*size)
 | .slice none _ _=>some []
 | .string s=>some ((s.data.toList.take n).map fun b=>.int .u8 b.toNat)
 | _=>none
def ma (b lo hi top:Nat):List Mem :=
 match Nat.ble hi top with
 | true=>[⟨b,lo,hi⟩]
 | false=>[]
def gH (h:Hp) (e:TypeId) (sz:Nat) (a:Addr) (len n:Nat) (cells:List Value) (r:Row):Option (Value×Hp) :=
 match r.fam with
 | 0=>some (.slice (some ⟨h.next,0,none⟩) (len+n) (len+n),
  { h with
    objs:=(h.objs.put a.block (.cells { r with fam:=h.nfam })).put h.next (.cells ⟨cells,e,h.nfam,r.base+a.off,true⟩)
    next:=h.next+1
    fams:=h.fams.put h.nfam (⟨h.next,r.base+a.off,r.base+a.off+cells.length⟩ ::
     ma a.block r.base (r.base+r.c.length) (r.base+a.off+len*sz))
    nfam:=h.nfam+1 })
 | f+1=>match h.fams.get (f+1) with
   | some l=>some (.slice (some ⟨h.next,0,none⟩) (len+n) (len+n),
    { h with
      objs:=h.objs.put h.next (.cells ⟨cells,e,f+1,r.base+a.off,true⟩)
      next:=h.next+1
      fams:=h.fams.put (f+1) (⟨h.next,r.base+a.off,r.base+a.off+cells.length⟩::l.filter fun m=>Nat.ble m.hi (r.base+a.off+len*sz)) })
   | none=>none
def apd (h:Hp) (e:TypeId) (sz:Nat) (base:Option Addr) (len cap n:Nat) (new:List Value):Option (Value×Hp) :=
 match Nat.ble (len+n) cap with
 | true=>match base with
   | none=>some (.slice none (len+n) cap,h)
   | some a=>match h.stores (a.add (len*sz)) new with
     | some h=>some (.slice (some a) (len+n) cap,h)
     | none=>none
 | false=>match base with
   | none=>match len with
     | 0=>match h.grownRow e new with
       | some (a,h)=>some (.slice (some a) n n,h)
       | none=>none
     | _+1=>none
   | some a=>match h.row a.block,h.loads a (len*sz) with
     | some r,some old=>match Nat.beq r.e e with
       | true=>gH h e sz a len n (old++new) r
       | false=>none
     | _,_=>none
def noInt (P:Program):List TypeId->Bool
 | u::_=>match P.underlying u with
   | some (.slice _)=>true
   | some .string=>true
   | _=>false
 | []=>true
def bt (P:Program) (h:Hp) (ts:List TypeId) (args:List Value):Option (Value×Hp) :=
 match ts,args with
 | t::xt,.slice base len cap::x::_=>match P.underlying t,noInt P xt with
   | some (.slice e),true=>match P.info? e,bE P e with
     | some i,some z=>match Nat.beq z.cells.toList.length i.size,Nat.blt 0 i.size,Nat.ble i.bytes 100000,Nat.blt 0 i.bytes with
       | true,true,true,true=>match d7 x with
         | some n=>match bS h i.size n x,Nat.ble (len+n) 1000000,Nat.ble len cap with
           | some new,true,true=>match new.all oneCell,Nat.beq new.length (n*i.size) with
             | true,true=>apd h e i.size base len cap n new
             | _,_=>none
           | _,_,_=>none
         | none=>none
       | _,_,_,_=>none
     | _,_=>none
   | _,_=>none
 | _,_=>none
def iE (P:Program) (h:Hp) (ts:List TypeId) (args:List Value):Option Value :=
 match ts,args with
 | t::_,x::_=>match P.underlying t,x with
   | some .string,.string s=>some (.int .i64 s.data.toList.length)
   | some (.array n _),_=>some (.int .i64 n)
   | some (.slice _),.slice _ n _=>some (.int .i64 n)
   | some (.map _ _),.map none=>some (.int .i64 0)
   | some (.map _ _),.map (some r)=>match h.map? r with
     | some (es,_)=>some (.int .i64 es.length)
     | none=>none
   | _,_=>none
 | _,_=>none
def cap' (P:Program) (h:Hp) (ts:List TypeId) (args:List Value):Option Value :=
 match ts,args with
 | t::_,x::_=>match P.underlying t,x with
   | some (.slice _),.slice none _ n=>some (.int .i64 n)
   | some (.slice _),.slice (some a) _ n=>match h.row a.block with
     | some r=>match r.grown with
       | false=>some (.int .i64 n)
       | true=>none
     | none=>none
   | _,_=>none
 | _,_=>none
def xP (P:Program) (h:Hp) (ts:List TypeId) (args:List Value):Option (Value×Hp) :=
 match ts,args with
 | t::_,d::s::_=>match P.underlying t,d,d7 s with
   | some (.slice e),.slice base dl _,some sl=>match aA P e with
     | some z=>match bS h z (Nat.min sl dl) s with
       | some cs=>match base with
         | none=>some (.int .i64 (Nat.min sl dl:Nat),h)
         | some a=>match h.stores a cs with
           | some h=>some (.int .i64 (Nat.min sl dl:Nat),h)
           | none=>none
       | none=>none
     | none=>none
   | _,_,_=>none
 | _,_=>none
def ny (P:Program) (h:Hp) (ts:List TypeId) (args:List Value):Option (Value×Hp) :=
 match ts,args with
 | t::_,x::_=>match P.underlying t,x with
   | some (.slice e),.slice base n _=>match base with
     | none=>some (.tuple #[],h)
     | some a=>match n with
       | 0=>some (.tuple #[],h)
       | m+1=>match bE P e with
         | some z=>match h.stores a (aC z.cells.toList (m+1)) with
           | some h=>some (.tuple #[],h)
           | none=>none
         | none=>none
   | _,_=>none
 | _,_=>none
def mm (big:Bool) (x y:Int):Int :=
 match big with
 | true=>match pA x y with
   | true=>y
   | false=>x
 | false=>match pA y x with
   | true=>y
   | false=>x
def d6 (big:Bool):Value->List Value->Option Value
 | x,[]=>some x
 | .int k x,.int _ y::r=>d6 big (.int k (mm big x y)) r
 | _,_=>none
def bP (P:Program) (h:Hp) (b:Builtin) (ts:List TypeId) (args:List Value):Option (Value×Hp) :=
 match b with
 | .append=>bt P h ts args
 | .copy=>xP P h ts args
 | .clear=>ny P h ts args
 | .delete=>match ts,args with
   | t::_,m::k::_=>qO P h t m k
   | _,_=>none
 | _=>none
def nz (h:Hp):Option Value->Option (Value×Hp)
 | some v=>some (v,h)
 | none=>none
def va:Option Hp->Option (Value×Hp)
 | some h=>some (ai,h)
 | none=>none
def aH (P:Program) (h:Hp) (a:A) (op:Op):Option Value :=
 match op with
 | .move x|.assign x=>a.ev x
 | .pick c x y=>match a.ev c with
   | some (.bool true)=>a.ev x
   | some (.bool false)=>a.ev y
   | _=>none
 | .build t parts=>match evPairs a parts.toList with
   | some l=>d3 P t l
   | none=>none
 | .load t x=>match a.ev x with
   | some (.pointer (some p))=>aV P h t p
   | _=>none
 | .nilCheck x=>match a.ev x with
   | some (.pointer (some p))=>some (.pointer (some p))
   | some (.func (.func f) x y)=>some (.func (.func f) x y)
   | some (.iface t v)=>some (.iface t v)
   | _=>none
 | .binOp op t x y _=>match a.ev x,a.ev y with
   | some v,some u=>be P h op t x y v u
   | _,_=>none
 | .unOp op _ x=>match a.ev x with
   | some v=>u9 op v
   | none=>none
 | .makeInterface t x=>match a.ev x,P.underlying t with
   | some _,some (.interface _)=>none
   | some v,some _=>some (.iface t v)
   | _,_=>none
 | .makeFunc fn first captured=>match evList a first.toList,evList a captured.toList with
   | some l,some r=>some (.func fn l.toArray r.toArray)
   | _,_=>none
 | .slice t x lo hi mx=>match a.ev x,evList a (lo.toList++hi.toList++mx.toList) with
   | some v,some _=>dn P h t v (lo.bind a.ev) (hi.bind a.ev) (mx.bind a.ev)
   | _,_=>none
 | .fieldAddr t x f=>match a.ev x with
   | some v=>aI P t v f
   | none=>none
 | .field t x f=>match a.ev x,P.underlying t with
   | some (.agg cs),some (.struct fields)=>match fields.toList[f]? with
     | some f=>part P f.type cs.toList f.offset
     | none=>none
   | _,_=>none
 | .indexAddr t x i=>match a.ev x,a.ev i with
   | some v,some u=>ap P t v u
   | _,_=>none
 | .index t x i=>match a.ev x,a.ev i with
   | some v,some u=>jV P t v u
   | _,_=>none
 | .lookup t x i ok=>match a.ev x,a.ev i with
   | some v,some u=>dR P h t v u ok
   | _,_=>none
 | .extract x i=>match a.ev x with
   | some (.tuple vs)=>vs.toList[i]?
   | _=>none
 | .typeAssert x _ t ok=>match a.ev x with
   | some v=>iF P v t ok
   | none=>none
 | .entry x=>match a.ev x with
   | some v=>tL h v
   | none=>none
 | .call c=>match c.callee with
   | .builtin .len=>match evList a c.args.toList with
     | some l=>iE P h c.argTypes.toList l
     | none=>none
   | .builtin .cap=>match evList a c.args.toList with
     | some l=>cap' P h c.argTypes.toList l
     | none=>none
   | .builtin .max=>match evList a c.args.toList with
     | some (x::r)=>d6 true x r
     | _=>none
   | .builtin .min=>match evList a c.args.toList with
     | some (x::r)=>d6 false x r
     | _=>none
   | _=>none
 | _=>none
def aP:Op->Bool
 | .move _|.assign _|.pick .. | .build .. | .load .. | .nilCheck _|.binOp .. | .unOp .. | .makeInterface .. | .makeFunc .. | .slice .. | .fieldAddr .. | .field .. | .indexAddr .. | .index .. | .lookup .. | .extract .. | .typeAssert .. | .entry _=>true
 | .call { callee:=.builtin b,.. }=>match b with
   | .len|.cap|.max|.min=>true
   | _=>false
 | _=>false
def gU:Op->Bool
 | .alloc _|.box .. | .buildSlice .. | .makeMap .. | .makeSlice .. => true
 | _=>false
def dC (P:Program) (a:A) (op:Op):Option (ak×(Nat->Value)) :=
 match op with
 | .alloc e=>match bE P e with
   | some z=>some (.cells ⟨z.cells.toList,e,0,0,false⟩,fun b=>.pointer (some ⟨b,0,none⟩))
   | none=>none
 | .box e x=>match a.ev x with
   | some v=>some (.cells ⟨v.cells.toList,e,0,0,false⟩,fun b=>.pointer (some ⟨b,0,none⟩))
   | none=>none
 | .buildSlice t n parts=>match evPairs a parts.toList with
   | some l=>aY P t n l
   | none=>none
 | .makeMap _ none=>some (.map [] 0,fun b=>.map (some b))
 | .makeMap t (some x)=>match a.ev x,P.underlying t with
   | some (.int _ _),some (.map _ _)=>some (.map [] 0,fun b=>.map (some b))
   | _,_=>none
 | .makeSlice t l c=>match a.ev l,a.ev c with
   | some x,some y=>fh P t x y
   | _,_=>none
 | _=>none
def cq (P:Program) (h:Hp) (a:A) (op:Op):Option (Value×Hp) :=
 match op with
 | .alloc _|.box .. | .buildSlice .. | .makeMap .. | .makeSlice .. => match dC P a op with
   | some (o,f)=>match h.new o with
     | some (b,h)=>some (f b,h)
     | none=>none
   | none=>none
 | .store t x y=>match a.ev x,a.ev y with
   | some (.pointer (some p)),some v=>va (bc P h t p v)
   | _,_=>none
 | .mapUpdate t m k v|.insert t m k v=>match a.ev m,a.ev k,a.ev v with
   | some m,some k,some v=>va (bF P h t m k v)
   | _,_,_=>none
 | .mapEntry t m k=>match a.ev m,a.ev k with
   | some m,some k=>lA P h t m k
   | _,_=>none
 | .entryStore _ m s v=>match a.ev m,a.ev s,a.ev v with
   | some m,some s,some v=>va (gu h m s v)
   | _,_,_=>none
 | .range t x=>match a.ev x with
   | some v=>range' P h t v
   | none=>none
 | .next it s=>match a.ev it with
   | some v=>xO h v s
   | none=>none
 | .convert s t x=>match a.ev x with
   | some v=>nu P h s t v
   | none=>none
 | .call c=>match c.callee with
   | .builtin b=>match evList a c.args.toList with
     | some l=>bP P h b c.argTypes.toList l
     | none=>none
   | _=>none
 | _=>none
def cR (a:A) (op:Op):Option (FuncId×List Value) :=
 match op with
 | .call c=>match c.callee with
   | .value f=>match a.ev f,evList a c.args.toList with
     | some (.func (.func g) first captured),some l=>some (g,first.toList++l++captured.toList)
     | _,_=>none
   | _=>none
 | _=>none
abbrev bI:=FuncId->List Value->Hp->Option (Value×Hp)
def fi (P:Program) (C:bI) (h:Hp) (a:A) (op:Op):Option (Value×Hp) :=
 match aP op with
 | true=>nz h (aH P h a op)
 | false=>match cR a op with
   | some (f,args)=>C f args h
   | none=>cq P h a op
def aW (ops:List Oper) (a:A) (o:Oper):Bool :=
 match o.guard with
 | none=>true
 | some (j,want)=>match ops[j]? with
   | none=>false
   | some p=>match p.dst with
     | none=>false
     | some d=>match a.get d with
       | .bool b=>b==want
       | _=>false
def jF (P:Program) (C:bI) (ops:List Oper) (o:Oper) (a:A) (h:Hp):Option (A×Hp) :=
 match aW ops a o with
 | true=>match fi P C h a o.op with
   | some (v,h)=>match a.put o.dst v with
     | some a=>some (a,h)
     | none=>none
   | none=>none
 | false=>match a.put o.dst ai with
   | some a=>some (a,h)
   | none=>none
def rS (P:Program) (C:bI) (ops:List Oper):List Oper->A->Hp->Option (A×Hp)
 | [],a,h=>some (a,h)
 | o::r,a,h=>match jF P C ops o a h with
   | some (a,h)=>rS P C ops r a h
   | none=>none
def cI (acc:List (List Nat)):List Edge->List Nat
 | []=>[]
 | e::l=>match Region.binds .any e with
   | true=>e.on::((acc[e.on]?).getD [])++cI acc l
   | false=>cI acc l
def dF (acc:List (List Nat)):List Oper->List (List Nat)
 | []=>acc
 | o::r=>dF (acc++[cI acc o.after.toList]) r
def dG (ops:List Oper):List (List Nat):=dF [] ops
def aG (ps:List (List Nat)) (i:Nat):List Nat:=(ps[i]?).getD []
def has (l:List Nat) (i:Nat):Bool:=l.any (Nat.beq i)
def fC (i:Nat):List Edge->Bool
 | []=>true
 | e::l=>match Region.binds .any e with
   | true=>match Nat.blt e.on i with
     | true=>fC i l
     | false=>false
   | false=>fC i l
def am (m:Bool) (op:Op):Bool :=
 match aP op with
 | true=>true
 | false=>match m with
   | true=>gU op
   | false=>false
def gV (m:Bool) (arr:Array Oper) (ps:List Nat) (y:Oper):Nat->List Oper->Bool
 | _,[]=>true
 | i,x::l=>match has ps i with
   | true=>gV m arr ps y (i+1) l
   | false=>match am m x.op||am m y.op,x.apart arr y,y.apart arr x with
     | true,true,true=>gV m arr ps y (i+1) l
     | _,_,_=>false
def gv (m:Bool) (ops:List Oper) (arr:Array Oper) (ps:List (List Nat)):Nat->List Oper->Bool
 | _,[]=>true
 | j,y::r=>match fC j y.after.toList,gV m arr (aG ps j) y 0 (ops.take j) with
   | true,true=>gv m ops arr ps (j+1) r
   | _,_=>false
def dp (m:Bool) (ops:List Oper):Bool:=gv m ops ops.toArray (dG ops) 0 ops
def aB:Nat->Value->Value->Bool
 | _,.bool a,.bool b=>a==b
 | _,.int j a,.int k b=>fO j k&&gr a b
 | _,.string a,.string b=>eC a.data.toList b.data.toList
 | _,.nilIface,.nilIface=>true
 | _,.nilFunc,.nilFunc=>true
 | _,.pointer none,.pointer none=>true
 | _,.pointer (some a),.pointer (some b)=>Nat.beq a.block b.block&&Nat.beq a.off b.off&&a.spot.isNone&&b.spot.isNone
 | _,.slice none n c,.slice none m d=>Nat.beq n m&&Nat.beq c d
 | _,.slice (some a) n c,.slice (some b) m d=>Nat.beq a.block b.block&&Nat.beq a.off b.off&&a.spot.isNone&&b.spot.isNone&&Nat.beq n m&&Nat.beq c d
 | _,.map none,.map none=>true
 | _,.map (some a),.map (some b)=>Nat.beq a b
 | n+1,.func (.func f) x y,.func (.func g) z w=>Nat.beq f g&&Nat.beq x.toList.length z.toList.length&&Nat.beq y.toList.length w.toList.length&&(x.toList.zip z.toList).all (fun (p,q)=>aB n p q)&&(y.toList.zip w.toList).all (fun (p,q)=>aB n p q)
 | n+1,.iface t v,.iface u w=>Nat.beq t u&&aB n v w
 | n+1,.agg a,.agg b=>Nat.beq a.toList.length b.toList.length&&(a.toList.zip b.toList).all fun (x,y)=>aB n x y
 | n+1,.tuple a,.tuple b=>Nat.beq a.toList.length b.toList.length&&(a.toList.zip b.toList).all fun (x,y)=>aB n x y
 | _,_,_=>false
def jW:List Value->List Value->Bool
 | [],[]=>true
 | x::l,y::m=>match aB 9 x y with
   | true=>jW l m
   | false=>false
 | _,_=>false
def nA:ak->ak->Bool
 | .cells ⟨c,e,0,0,false⟩,.cells ⟨d,u,0,0,false⟩=>match Nat.beq e u with
   | true=>jW c d
   | false=>false
 | .map [] 0,.map [] 0=>true
 | _,_=>false
def aN (P:Program) (g:Nat) (h:Hp) (a:A) (op:Op):Option Value :=
 match aP op with
 | true=>aH P h a op
 | false=>match dC P a op with
   | some (o,f)=>match h.objs.get g with
     | some o'=>match nA o o' with
       | true=>some (f g)
       | false=>none
     | none=>none
   | none=>none
def dD (P:Program) (C:bI) (m:Bool) (g:Nat) (h:Hp) (a:A) (op:Op):Option (Value×Hp) :=
 match am m op with
 | true=>nz h (aN P g h a op)
 | false=>fi P C h a op
def bv (P:Program) (C:bI) (m:Bool) (ops:List Oper) (g:Nat) (o:Oper) (a:A) (h:Hp):Option (A×Hp) :=
 match aW ops a o with
 | true=>match dD P C m g h a o.op with
   | some (v,h)=>match a.put o.dst v with
     | some a=>some (a,h)
     | none=>none
   | none=>none
 | false=>match a.put o.dst ai with
   | some a=>some (a,h)
   | none=>none
def heaps (P:Program) (C:bI) (m:Bool) (base:Nat) (ops:List Oper):Nat->List Oper->A->Hp->Option (List (Nat×Hp))
 | i,[],_,h=>some [(i,h)]
 | i,o::r,a,h=>match bv P C m ops (base+i) o a h with
   | some (a',h')=>match heaps P C m base ops (i+1) r a' h' with
     | some l=>match am m o.op with
       | true=>some l
       | false=>some ((i,h)::l)
     | none=>none
   | none=>none
def bA (P:Program) (g:Nat) (a:A) (op:Op) (v:Value) (i:Nat) (ps:List (List Nat)):List (Nat×Hp)->Bool
 | []=>true
 | (e,h)::r=>match has (aG ps i) e with
   | true=>bA P g a op v i ps r
   | false=>match aN P g h a op with
     | some u=>match aB 9 v u with
       | true=>match has (aG ps e) i with
         | true=>true
         | false=>bA P g a op v i ps r
       | false=>false
     | none=>false
def cN (P:Program) (C:bI) (m:Bool) (base:Nat) (ops:List Oper) (ps:List (List Nat)) (gs:List (Nat×Hp)):Nat->List Oper->A->Hp->Option (A×Hp)
 | _,[],a,h=>some (a,h)
 | i,o::r,a,h=>match bv P C m ops (base+i) o a h with
   | none=>none
   | some (a',h')=>match am m o.op,aW ops a o with
     | true,true=>match aN P (base+i) h a o.op with
       | some v=>match bA P (base+i) a o.op v i ps gs with
         | true=>cN P C m base ops ps gs (i+1) r a' h'
         | false=>none
       | none=>none
     | _,_=>cN P C m base ops ps gs (i+1) r a' h'
def mc (P:Program) (C:bI) (calls:Bool) (base:Nat) (ops:List Oper):Nat->List Oper->A->Hp->List (Nat×ak)
 | _,[],_,_=>[]
 | i,o::r,a,h=>match aW ops a o,gU o.op with
   | true,true=>match dC P a o.op with
     | some (ob,f)=>match a.put o.dst (f (base+i)) with
       | some a=>(i,ob)::mc P C calls base ops (i+1) r a (h.put (base+i) ob)
       | none=>[]
     | none=>mc P C calls base ops (i+1) r a h
   | true,false=>match aP o.op||calls with
     | true=>match jF P C ops o a h with
       | some (a,h)=>mc P C calls base ops (i+1) r a h
       | none=>mc P C calls base ops (i+1) r a h
     | false=>mc P C calls base ops (i+1) r a h
   | false,_=>match a.put o.dst ai with
     | some a=>mc P C calls base ops (i+1) r a h
     | none=>[]
def jg:ak->Bool
 | .cells r=>Nat.beq r.fam 0
 | _=>true
def jX (base k:Nat):List (Nat×ak)->Hp->Hp
 | [],h=>h
 | (i,o)::l,h=>match Nat.blt i k,jg o with
   | true,true=>jX base k l (h.put (base+i) o)
   | _,_=>jX base k l h
def gW (ops:List Oper):List (List Nat)->List Oper->Bool
 | p::ps,o::r=>match gU o.op with
   | true=>(p.any fun j=>match ops[j]? with
     | some x => !am true x.op
     | none=>false)||gW ops ps r
   | false=>gW ops ps r
 | _,_=>false
def nB (ops:List Oper) (ps:List (List Nat)):Bool:=gW ops ps ops
def drawn (P:Program) (C:bI) (m:Bool) (base:Nat) (ops:List Oper) (a:A) (h:Hp):Option (A×Hp) :=
 match heaps P C m base ops 0 ops a h with
 | some gs=>cN P C m base ops (dG ops) gs 0 ops a h
 | none=>none
def iG (P:Program) (C:bI) (ops:List Oper) (a:A) (h:Hp):Option (A×Hp) :=
 match dp false ops with
 | true=>drawn P C false 0 ops a h
 | false=>match dp true ops with
   | true=>drawn P C true h.next ops a
    (jX h.next ops.length (mc P C (nB ops (dG ops)) h.next ops 0 ops a { h with next:=h.next+ops.length }) { h with next:=h.next+ops.length })
   | false=>none
inductive Ex where
 | normal
 | exit (id:Nat)
 | ret
def di (P:Program) (C:bI):Nat->Code->A->Hp->Option (Ex×A×Hp)
 | 0,_,_,_=>none
 | n+1,c,a,h=>match c with
   | .skip=>some (.normal,a,h)
   | .label _=>some (.normal,a,h)
   | .region _ ops false=>match rS P C ops.toList ops.toList a h with
     | some (a,h)=>some (.normal,a,h)
     | none=>none
   | .region _ ops true=>match iG P C ops.toList a h with
     | some (a,h)=>some (.normal,a,h)
     | none=>none
   | .seq x y=>match di P C n x a h with
     | some (.normal,a,h)=>di P C n y a h
     | r=>r
   | .cond x t e=>match a.ev x with
     | some (.bool true)=>di P C n t a h
     | some (.bool false)=>di P C n e a h
     | _=>none
   | .block id b=>match di P C n b a h with
     | some (.exit j,a,h)=>match Nat.beq j id with
       | true=>some (.normal,a,h)
       | false=>some (.exit j,a,h)
     | r=>r
   | .loop b=>match di P C n b a h with
     | some (.normal,a,h)=>di P C n (.loop b) a h
     | r=>r
   | .scope b=>di P C n b a h
   | .exit id=>some (.exit id,a,h)
   | .ret=>some (.ret,a,h)
   | _=>none
def eV:List Value->Nat->Tr Value->Tr Value
 | [],_,t=>t
 | v::r,i,t=>eV r (i+1) (t.put i v)
def km (P:Program) (h:Hp) (a:A):ResultVar->Option Value
 | .tmp t=>some (a.get t)
 | .cell t ty=>match a.get t with
   | .pointer (some p)=>aV P h ty p
   | _=>none
def cS (P:Program) (h:Hp) (a:A):List ResultVar->Option (List Value)
 | []=>some []
 | r::l=>match km P h a r,cS P h a l with
   | some v,some vs=>some (v::vs)
   | _,_=>none
def nC (P:Program):Nat->bI
 | 0,_,_,_=>none
 | n+1,f,args,h=>match P.funcs[f]? with
   | none=>none
   | some fn=>match fn.body with
     | none=>none
     | some c=>match Nat.ble args.length fn.ntmps,fn.name == "runtime.NumGoroutine" with
       | true,false=>match di P (nC P n) 20000 c ⟨eV args 0 .lf,fn.ntmps⟩ h with
         | some (.exit _,_,_)=>none
         | some (_,a,h)=>match cS P h a fn.results.toList with
           | some [v]=>some (v,h)
           | some vs=>some (.tuple vs.toArray,h)
           | none=>none
         | none=>none
       | _,_=>none
end Go.Ev
end
section
namespace Go.Ev
open Go.RowKit
theorem CP (n:Nat):Nat.beq n 0=decide (n=0):=by
 cases n<;>simp[Nat.beq]
theorem Tr.get_lf {α:Type} (k:Nat):(Tr.lf:Tr α).get k=none:=by cases k<;>rfl
theorem Tr.get_nd_zero {α:Type} (o:Option α) (l r:Tr α):(Tr.nd o l r).get 0=o:=rfl
theorem Tr.get_nd_succ {α:Type} (o:Option α) (l r:Tr α) (k:Nat):(Tr.nd o l r).get (k+1)=if k % 2=0 then l.get (k / 2) else r.get (k / 2):=by
 show (match Nat.beq (k % 2) 0 with|true=>l.get (k / 2)|false=>r.get (k / 2))=_
 rw[CP]
 by_cases h:k % 2=0<;>simp[h]
theorem Tr.get_set {α:Type}:∀(f:Nat) (t:Tr α) (k:Nat) (v:α) (j:Nat),k+1<2 ^ f->(Tr.set f t k v).get j=if j=k then some v else t.get j
 | 0,t,k,v,j,h=>by simp at h
 | f+1,t,k,v,j,h=>by
   have ih:=fun (t:Tr α) (k' j':Nat) (hk:k'+1<2 ^ f)=>Tr.get_set f t k' v j' hk
   cases k with
   | zero =>
     cases t with
     | lf=>cases j with
       | zero=>rfl
       | succ j=>simp[Tr.set,Tr.get_nd_succ,Tr.get_lf]
     | nd o l r=>cases j with
       | zero=>rfl
       | succ j=>simp[Tr.set,Tr.get_nd_succ]
   | succ k =>
     have hk:k / 2+1<2 ^ f:=by rw[Nat.pow_succ] at h;omega
     cases t with
     | lf =>
       simp only[Tr.set,CP]
       by_cases hp:k % 2=0
       ·simp only[hp,decide_true]
        cases j with
        | zero=>simp[Tr.get_nd_zero,Tr.get_lf]
        | succ j =>
          rw[Tr.get_nd_succ,ih _ _ _ hk]
          by_cases hj:j % 2=0
          ·rw[if_pos hj]
           by_cases e:j / 2=k / 2
           ·rw[if_pos e,if_pos (by omega)]
           ·rw[if_neg e,if_neg (by omega),Tr.get_lf,Tr.get_lf]
          ·rw[if_neg hj,if_neg (by omega),Tr.get_lf,Tr.get_lf]
       ·simp only[hp,decide_false]
        cases j with
        | zero=>simp[Tr.get_nd_zero,Tr.get_lf]
        | succ j =>
          rw[Tr.get_nd_succ,ih _ _ _ hk]
          by_cases hj:j % 2=0
          ·rw[if_pos hj,if_neg (by omega),Tr.get_lf,Tr.get_lf]
          ·rw[if_neg hj]
           by_cases e:j / 2=k / 2
           ·rw[if_pos e,if_pos (by omega)]
           ·rw[if_neg e,if_neg (by omega),Tr.get_lf,Tr.get_lf]
     | nd o l r =>
       simp only[Tr.set,CP]
       by_cases hp:k % 2=0
       ·simp only[hp,decide_true]
        cases j with
        | zero=>simp[Tr.get_nd_zero]
        | succ j =>
          rw[Tr.get_nd_succ,ih _ _ _ hk]
          by_cases hj:j % 2=0
          ·rw[if_pos hj]
           by_cases e:j / 2=k / 2
           ·rw[if_pos e,if_pos (by omega)]
           ·rw[if_neg e,if_neg (by omega),Tr.get_nd_succ,if_pos hj]
          ·rw[if_neg hj,if_neg (by omega),Tr.get_nd_succ,if_neg hj]
       ·simp only[hp,decide_false]
        cases j with
        | zero=>simp[Tr.get_nd_zero]
        | succ j =>
          rw[Tr.get_nd_succ,ih _ _ _ hk]
          by_cases hj:j % 2=0
          ·rw[if_pos hj,if_neg (by omega),Tr.get_nd_succ,if_pos hj]
          ·rw[if_neg hj]
           by_cases e:j / 2=k / 2
           ·rw[if_pos e,if_pos (by omega)]
           ·rw[if_neg e,if_neg (by omega),Tr.get_nd_succ,if_neg hj]
theorem ud (k:Nat):k+1<2 ^ (k+1):=by
 induction k with
 | zero=>decide
 | succ k ih=>rw[Nat.pow_succ];omega
theorem Tr.get_put {α:Type} (t:Tr α) (k:Nat) (v:α) (j:Nat):(t.put k v).get j=if j=k then some v else t.get j :=
 Tr.get_set _ _ _ _ _ (ud k)
structure Img where
 b:Nat
 s:Nat
 m:Nat
 z:Nat
 ex:Bool
abbrev Rho:=Nat->Option Img
def Rho.le (ρ ρ':Rho):Prop:=∀b i,ρ b=some i->ρ' b=some i
theorem Rho.le_refl (ρ:Rho):ρ.le ρ:=fun _ _ h=>h
theorem Rho.le_trans {a b c:Rho} (h:a.le b) (k:b.le c):a.le c:=fun _ _ e=>k _ _ (h _ _ e)
def AR (ρ:Rho) (a a':Addr) (i:Img):Prop:=a.spot=none/\ρ a.block=some i/\a'=⟨i.b,i.s+a.off,none⟩
def Ce (i:Img) (off c c':Nat):Prop:=c'=c\/(i.ex=false/\c<=c'/\off+c'*i.z<=i.m)
mutual
inductive VR (ρ:Rho):Value->Value->Prop
 | bool (b:Bool):VR ρ (.bool b) (.bool b)
 | int (k:IntKind) (n:Int):VR ρ (.int k n) (.int k n)
 | float (k:FloatKind) (n:Nat):VR ρ (.float k n) (.float k n)
 | complex (k:FloatKind) (a b:Nat):VR ρ (.complex k a b) (.complex k a b)
 | string (s:ByteArray):VR ρ (.string s) (.string s)
 | ptrNil:VR ρ (.pointer none) (.pointer none)
 | ptr {a a':Addr} {i:Img} (h:AR ρ a a' i):VR ρ (.pointer (some a)) (.pointer (some a'))
 | slNil:VR ρ (.slice none 0 0) (.slice none 0 0)
 | sl {a a':Addr} {i:Img} {n c c':Nat} (h:AR ρ a a' i) (hc:Ce i a.off c c'):VR ρ (.slice (some a) n c) (.slice (some a') n c')
 | slZero (a a':Addr) {i:Img} (h:ρ a.block=some i):VR ρ (.slice (some a) 0 0) (.slice (some a') 0 0)
 | mapNil:VR ρ (.map none) (.map none)
 | map {r:Nat} {i:Img} (h:ρ r=some i):VR ρ (.map (some r)) (.map (some i.b))
 | chanNil:VR ρ (.chan none) (.chan none)
 | func {fn:Fn} {f c f' c':Array Value} (h:VRs ρ f.toList f'.toList) (k:VRs ρ c.toList c'.toList):VR ρ (.func fn f c) (.func fn f' c')
 | nilFunc:VR ρ .nilFunc .nilFunc
 | iface {t:TypeId} {v v':Value} (h:VR ρ v v'):VR ρ (.iface t v) (.iface t v')
 | nilIface:VR ρ .nilIface .nilIface
 | agg {c c':Array Value} (h:VRs ρ c.toList c'.toList):VR ρ (.agg c) (.agg c')
 | tuple {c c':Array Value} (h:VRs ρ c.toList c'.toList):VR ρ (.tuple c) (.tuple c')
inductive VRs (ρ:Rho):List Value->List Value->Prop
 | nil:VRs ρ [] []
 | cons {v v':Value} {l l':List Value} (h:VR ρ v v') (k:VRs ρ l l'):VRs ρ (v::l) (v'::l')
end
theorem AR.mono {ρ ρ':Rho} (hr:ρ.le ρ') {a a':Addr} {i:Img} (h:AR ρ a a' i):AR ρ' a a' i:=⟨h.1,hr _ _ h.2.1,h.2.2⟩
mutual
theorem VR.mono {ρ ρ':Rho} (hr:ρ.le ρ'):∀{v v':Value},VR ρ v v'->VR ρ' v v'
 | _,_,.bool b=>.bool b
 | _,_,.int k n=>.int k n
 | _,_,.float k n=>.float k n
 | _,_,.complex k a b=>.complex k a b
 | _,_,.string s=>.string s
 | _,_,.ptrNil=>.ptrNil
 | _,_,.ptr h=>.ptr (h.mono hr)
 | _,_,.slNil=>.slNil
 | _,_,.sl h hc=>.sl (h.mono hr) hc
 | _,_,.slZero a a' h=>.slZero a a' (hr _ _ h)
 | _,_,.mapNil=>.mapNil
 | _,_,.map h=>.map (hr _ _ h)
 | _,_,.chanNil=>.chanNil
 | _,_,.func h k=>.func (VRs.mono hr h) (VRs.mono hr k)
 | _,_,.nilFunc=>.nilFunc
 | _,_,.iface h=>.iface (VR.mono hr h)
 | _,_,.nilIface=>.nilIface
 | _,_,.agg h=>.agg (VRs.mono hr h)
 | _,_,.tuple h=>.tuple (VRs.mono hr h)
theorem VRs.mono {ρ ρ':Rho} (hr:ρ.le ρ'):∀{l l':List Value},VRs ρ l l'->VRs ρ' l l'
 | _,_,.nil=>.nil
 | _,_,.cons h k=>.cons (VR.mono hr h) (VRs.mono hr k)
end
theorem VRs.length {ρ:Rho}:∀{l l':List Value},VRs ρ l l'->l'.length=l.length
 | _,_,.nil=>rfl
 | _,_,.cons _ k=>by simp[VRs.length k]
theorem VRs.get {ρ:Rho}:∀{l l':List Value},VRs ρ l l'->∀{k:Nat} {v:Value},l[k]? = some v->∃v',l'[k]? = some v'/\VR ρ v v'
 | _,_,.nil,k,v,h=>by simp at h
 | _,_,.cons (v':=v') h0 r,0,v,h=>by simp at h;subst h;exact ⟨v',rfl,h0⟩
 | _,_,.cons h0 r,k+1,v,h=>by simp at h;simpa using VRs.get r h
theorem VRs.append {ρ:Rho}:∀{l l' m m':List Value},VRs ρ l l'->VRs ρ m m'->VRs ρ (l++m) (l'++m')
 | _,_,_,_,.nil,k=>k
 | _,_,_,_,.cons h r,k=>.cons h (VRs.append r k)
theorem VRs.of_get {ρ:Rho}:∀{l l':List Value},l'.length=l.length->(∀(k:Nat) (v:Value),l[k]? = some v->∃v',l'[k]? = some v'/\VR ρ v v')->VRs ρ l l'
 | [],[],_,_=>.nil
 | [],_::_,hl,_=>by simp at hl
 | _::_,[],hl,_=>by simp at hl
 | x::l,y::l',hl,h=>by
   obtain ⟨v',h1,h2⟩:=h 0 x rfl
   simp at h1
   subst h1
   exact .cons h2 (VRs.of_get (by simpa using hl) fun k v hk=>by simpa using h (k+1) v (by simpa using hk))
theorem VRs.drop {ρ:Rho}:∀{l l':List Value} (n:Nat),VRs ρ l l'->VRs ρ (l.drop n) (l'.drop n)
 | _,_,0,h=>by simpa using h
 | _,_,n+1,.nil=>by simpa using VRs.nil
 | _,_,n+1,.cons _ k=>by simpa using VRs.drop n k
theorem VRs.take {ρ:Rho}:∀{l l':List Value} (n:Nat),VRs ρ l l'->VRs ρ (l.take n) (l'.take n)
 | _,_,0,h=>by simpa using VRs.nil
 | _,_,n+1,.nil=>by simpa using VRs.nil
 | _,_,n+1,.cons h k=>by simpa using VRs.cons h (VRs.take n k)
theorem VR.oneCell {ρ:Rho} {v v':Value} (h:VR ρ v v'):oneCell v'=oneCell v:=by cases h<;>rfl
theorem ue (v:Value):oneCell v=v.oneCell':=by cases v<;>rfl
theorem VR.cells {ρ:Rho} {v v':Value} (h:VR ρ v v'):VRs ρ v.cells.toList v'.cells.toList:=by
 have h0:=h
 cases h with
 | agg h=>exact h
 | _=>exact .cons h0 .nil
theorem oe {ρ:Rho}:∀(n:Nat) (v:Value),plain n v=true->VR ρ v v:=by
 intro n
 induction n with
 | zero =>
   intro v h
   cases v with
   | bool b=>exact .bool b
   | int k n=>exact .int k n
   | float k n=>exact .float k n
   | complex k a b=>exact .complex k a b
   | string s=>exact .string s
   | pointer a=>cases a with
     | none=>exact .ptrNil
     | some a=>simp[plain] at h
   | slice a n c=>cases a with
     | none=>cases n<;>cases c<;>first|exact .slNil|simp[plain] at h
     | some a=>simp[plain] at h
   | map r=>cases r with
     | none=>exact .mapNil
     | some r=>simp[plain] at h
   | chan r=>cases r with
     | none=>exact .chanNil
     | some r=>simp[plain] at h
   | func=>simp[plain] at h
   | nilFunc=>exact .nilFunc
   | iface=>simp[plain] at h
   | nilIface=>exact .nilIface
   | agg=>simp[plain] at h
   | tuple=>simp[plain] at h
 | succ n ih =>
   have all:∀l:List Value,l.all (plain n)=true->VRs ρ l l:=by
    intro l
    induction l with
    | nil=>exact fun _=>.nil
    | cons x l ihl =>
      intro h
      simp only[List.all_cons,Bool.and_eq_true] at h
      exact .cons (ih x h.1) (ihl h.2)
   intro v h
   cases v with
   | bool b=>exact .bool b
   | int k n=>exact .int k n
   | float k n=>exact .float k n
   | complex k a b=>exact .complex k a b
   | string s=>exact .string s
   | pointer a=>cases a with
     | none=>exact .ptrNil
     | some a=>simp[plain] at h
   | slice a n c=>cases a with
     | none=>cases n<;>cases c<;>first|exact .slNil|simp[plain] at h
     | some a=>simp[plain] at h
   | map r=>cases r with
     | none=>exact .mapNil
     | some r=>simp[plain] at h
   | chan r=>cases r with
     | none=>exact .chanNil
     | some r=>simp[plain] at h
   | func=>simp[plain] at h
   | nilFunc=>exact .nilFunc
   | iface t v=>exact .iface (ih v (by simpa[plain] using h))
   | nilIface=>exact .nilIface
   | agg c=>exact .agg (all _ (by simpa[plain] using h))
   | tuple c=>exact .tuple (all _ (by simpa[plain] using h))
inductive MRs (ρ:Rho):List MapEntry->List MapEntry->Prop
 | nil:MRs ρ [] []
 | cons {e e':MapEntry} {l l':List MapEntry} (hk:VR ρ e.key e'.key) (hv:VR ρ e.val e'.val) (hb:e'.born=e.born) (k:MRs ρ l l'):MRs ρ (e::l) (e'::l')
theorem MRs.mono {ρ ρ':Rho} (hr:ρ.le ρ'):∀{l l':List MapEntry},MRs ρ l l'->MRs ρ' l l'
 | _,_,.nil=>.nil
 | _,_,.cons hk hv hb k=>.cons (hk.mono hr) (hv.mono hr) hb (MRs.mono hr k)
def CQ (P:Program) (ρ:Rho) (i:Img) (r:Row) (arr:Array Value) (e:TypeId) (fr:Nat×Nat):Prop :=
 e=r.e/\i.s+r.c.length<=arr.size/\i.m=arr.size - i.s /\
 (∀k v,r.c[k]? = some v->∃v',arr[i.s+k]? = some v'/\VR ρ v v') /\
 (∀k,k<arr.size->(fr.1<=k&&k<fr.2)=false) /\
 (r.grown=false->i.ex=true/\fr=(0,0)) /\
 (i.ex=false->P.cellsOf r.e=i.z)
def ObjR (P:Program) (ρ:Rho) (i:Img):ak->Obj->Prop
 | .cells r,.cells arr e fr=>CQ P ρ i r arr e fr
 | .map es k,.map es' k'=>MRs ρ es es'.toList/\k'=k
 | .sIter s p,.stringIter s' p'=>s'=s/\p'=p/\i.s=0
 | .mIter m since seen st,.mapIter m' since' seen' st'=>(match m,m' with
  | none,none=>True
  | some m,some m'=>∃j,ρ m=some j/\m'=j.b
  | _,_=>False)/\since'=since/\seen'.toList=seen/\st'=st/\i.s=0
 | _,_=>False
def Hp.alive (h:Hp) (b:Nat):Prop:=∀r,h.objs.get b=some (.cells r)->h.row b=some r
def sj (h:Hp) (b d:Nat) (i j:Img):Prop :=
 ∃r q,h.objs.get b=some (.cells r)/\h.objs.get d=some (.cells q)/\r.fam=q.fam/\r.fam≠0/\i.s+q.base=j.s+r.base
structure Bs where
 n:Nat
 g:Nat->Prop
instance:Coe Bs Nat:=⟨Bs.n⟩
structure HR (P:Program) (ρ:Rho) (N:Bs) (h:Hp) (w:World):Prop where
 obj:∀b o i,h.objs.get b=some o->h.alive b->ρ b=some i->∃o',w.heap[i.b]? = some o'/\ObjR P ρ i o o'
 dom:∀b i,ρ b=some i->b<h.next
 lo:∀b i,ρ b=some i->(h.base<=b->N.n<=i.b)/\i.b<w.heap.size
 inj:∀b d i j,ρ b=some i->ρ d=some j->b≠d->i.b=j.b->sj h b d i j
 famlt:∀b r,h.objs.get b=some (.cells r)->r.fam<h.nfam
 mem:∀f l m,h.fams.get f=some l->m∈l->f<h.nfam->f≠0->∃q,h.objs.get m.b=some (.cells q)/\q.fam=f/\m.lo=q.base/\m.hi=q.base+q.c.length
 cover:∀b o,h.objs.get b=some o->b<h.next
 nf0:0<h.nfam
 base:N.n<=w.heap.size
 gho:∀b,N.g b->ρ b=none/\b<h.next
 bn:h.base<=N.n
 rid:∀b,b<h.base->ρ b=some ⟨b,0,0,0,true⟩
 low:∀b o,h.objs.get b=some o->h.base<=b
 rom:∀b k v,b<h.base->h.ro b k=some v->∃v',w.cell? ⟨b,k,none⟩=some v'/\VR ρ v v'
theorem sk {n:Nat} {w w1:World} (B:Below n w w1) {b k:Nat} (hb:b<n):w1.cell? ⟨b,k,none⟩=w.cell? ⟨b,k,none⟩:=by
 unfold World.cell?
 rw[B.block b hb]
theorem ObjR.mono {P:Program} {ρ ρ':Rho} (hr:ρ.le ρ') {i:Img} {o:ak} {o':Obj} (h:ObjR P ρ i o o'):ObjR P ρ' i o o':=by
 cases o<;>cases o'<;>simp only[ObjR] at h ⊢ <;> try exact h
 ·obtain ⟨h1,h2,h3,h4,h5,h6⟩:=h
  exact ⟨h1,h2,h3,fun k v hk=>let ⟨v',a,b⟩:=h4 k v hk;⟨v',a,b.mono hr⟩,h5,h6⟩
 ·exact ⟨h.1.mono hr,h.2⟩
 ·rename_i m since seen st m' since' seen' st'
  refine ⟨?_,h.2⟩
  have h1:=h.1
  cases m<;>cases m'<;>simp only at h1 ⊢
  obtain ⟨j,hj,e⟩:=h1
  exact ⟨j,hr _ _ hj,e⟩
theorem HR.drewn {P:Program} {ρ:Rho} {N:Bs} {h:Hp} {w:World} (H:HR P ρ N h w) (n:Nat):HR P ρ N h { w with drawn:=n } :=
 ⟨H.obj,H.dom,H.lo,H.inj,H.famlt,H.mem,H.cover,H.nf0,H.base,H.gho,H.bn,H.rid,H.low,H.rom⟩
theorem HR.row {P:Program} {ρ:Rho} {N:Bs} {h:Hp} {w:World} (H:HR P ρ N h w) {b:Nat} {r:Row} (hr:h.row b=some r) {i:Img} (hi:ρ b=some i) :
  ∃arr e fr,w.heap[i.b]? = some (.cells arr e fr)/\CQ P ρ i r arr e fr/\h.objs.get b=some (.cells r):=by
 have hget:h.objs.get b=some (.cells r):=by
  unfold Hp.row at hr
  split at hr
  ·rename_i q hq
   rw[hq]
   split at hr
   ·injection hr with hr;rw[hr]
   ·split at hr
    ·split at hr
     ·injection hr with hr;rw[hr]
     ·cases hr
    ·cases hr
  ·cases hr
 obtain ⟨o',ho,hR⟩:=H.obj b _ i hget (fun q hq=>by rw[hget] at hq;injection hq with hq;injection hq with hq;rw[<-hq];exact hr) hi
 cases o'<;>simp only[ObjR] at hR
 exact ⟨_,_,_,ho,hR,hget⟩
theorem HR.map? {P:Program} {ρ:Rho} {N:Bs} {h:Hp} {w:World} (H:HR P ρ N h w) {b:Nat} {es:List MapEntry} {k:Nat} (hr:h.map? b=some (es,k)) {i:Img} (hi:ρ b=some i) :
  ∃es',w.heap[i.b]? = some (.map es' k)/\MRs ρ es es'.toList/\h.objs.get b=some (.map es k):=by
 have hget:h.objs.get b=some (.map es k):=by
  unfold Hp.map? at hr
  split at hr
  ·rename_i es' k' hq
   injection hr with hr
   injection hr with h1 h2
   rw[hq,h1,h2]
  ·cases hr
 obtain ⟨o',ho,hR⟩:=H.obj b _ i hget (fun q hq=>by rw[hget] at hq;cases hq) hi
 cases o'<;>simp only[ObjR] at hR
 obtain ⟨h1,rfl⟩:=hR
 exact ⟨_,ho,h1,hget⟩
section
theorem gw:∀(c:List Value) (o:Nat) (vs c':List Value),bC c o vs=some c' ->
  c'.length=c.length/\o+vs.length<=c.length/\∀j,c'[j]? = if o<=j/\j<o+vs.length then vs[j - o]? else c[j]?
 | c,0,[],c',h=>by
   simp only[bC] at h
   injection h with h
   subst h
   exact ⟨rfl,by simp,fun j=>by rw[if_neg (by simp)]⟩
 | x::c,0,v::vs,c',h=>by
   simp only[bC] at h
   split at h
   ·rename_i r hr
    injection h with h
    subst h
    obtain ⟨h1,h2,h3⟩:=gw c 0 vs r hr
    refine ⟨by simp[h1],by simpa using h2,fun j => ?_⟩
    cases j with
    | zero=>simp
    | succ j =>
      have h4:=h3 j
      simp only[gC1,h4]
      simp
   ·cases h
 | x::c,o+1,vs,c',h=>by
   simp only[bC] at h
   split at h
   ·rename_i r hr
    injection h with h
    subst h
    obtain ⟨h1,h2,h3⟩:=gw c o vs r hr
    refine ⟨by simp[h1],by simp;omega,fun j => ?_⟩
    cases j with
    | zero=>simp
    | succ j =>
      have h4:=h3 j
      simp only[gC1,h4]
      by_cases hj:o<=j/\j<o+vs.length
      ·rw[if_pos hj,if_pos (by omega),show j+1 - (o+1)=j - o by omega]
      ·rw[if_neg hj,if_neg (by omega)]
   ·cases h
 | [],0,_::_,c',h=>by simp[bC] at h
 | [],_+1,_,c',h=>by simp[bC] at h
theorem j3:∀(c:List Value) (n:Nat) (l:List Value),bU c n=some l->l=c.take n/\n<=c.length
 | c,0,l,h=>by
   cases c<;>simp[bU] at h<;>simp[h]
 | [],n+1,l,h=>by simp[bU] at h
 | x::c,n+1,l,h=>by
   simp only[bU] at h
   split at h
   ·rename_i r hr
    injection h with h
    subst h
    obtain ⟨h1,h2⟩:=j3 c n r hr
    exact ⟨by simp[h1],by simpa using h2⟩
   ·cases h
theorem AR.fn {ρ:Rho} {a a':Addr} {i:Img} (h:AR ρ a a' i):a'=⟨i.b,i.s+a.off,none⟩:=h.2.2
theorem AR.add {ρ:Rho} {a a':Addr} {i:Img} (h:AR ρ a a' i) (n:Nat):AR ρ (a.add n) (a'.add n) i:=by
 obtain ⟨h1,h2,rfl⟩:=h
 unfold Addr.add
 by_cases hn:n=0
 ·simp only[hn,if_true]
  exact ⟨h1,h2,rfl⟩
 ·simp only[hn,if_false]
  exact ⟨rfl,h2,by simp[Nat.add_assoc]⟩
theorem lE (a:Addr) (n:Nat):(a.add n).block=a.block:=by unfold Addr.add;split<;>rfl
theorem mT (a:Addr) (n:Nat):(a.add n).off=a.off+n:=by unfold Addr.add;split<;>simp_all
variable {P:Program} {ρ:Rho} {N:Bs} {h:Hp} {w:World}
theorem HR.load (H:HR P ρ N h w) {a a':Addr} {i:Img} (ha:AR ρ a a' i) {v:Value} (hv:h.load a=some v):∃v',w.cell? a'=some v'/\VR ρ v v':=by
 unfold Hp.load at hv
 split at hv
 ·cases hv
 ·split at hv
  ·rename_i hb
   have hb':a.block<h.base:=by simpa using hb
   obtain ⟨v',e1,e2⟩:=H.rom _ _ _ hb' hv
   refine ⟨v',?_,e2⟩
   have h2:=ha.2.1
   rw[H.rid _ hb'] at h2
   injection h2 with h2
   rw[ha.fn,<-h2,Nat.zero_add]
   exact e1
  split at hv
  ·rename_i r hr
   obtain ⟨arr,e,fr,hw,hR,_⟩:=H.row hr ha.2.1
   obtain ⟨v',h1,h2⟩:=hR.2.2.2.1 _ _ hv
   refine ⟨v',?_,h2⟩
   rw[ha.fn]
   simp[World.cell?,hw,h1]
  ·cases hv
theorem jI {a:Addr} {v:Value} (hc:w.cell? a=some v):(load a).run P w=.ok v w:=by
 rw[run_load,hc]
theorem gx {a:Addr} (l:List Value):∀(i:Nat) (acc:Array Value),(∀k v,l[k]? = some v->w.cell? (a.add (i+k))=some v) ->
  (loadCellsFrom a i l.length acc).run P w=.ok (acc++l.toArray) w:=by
 induction l with
 | nil=>intro i acc _;simp[loadCellsFrom]
 | cons v l ih =>
   intro i acc hc
   have h0:=hc 0 v rfl
   simp only[Nat.add_zero] at h0
   simp only[List.length_cons,loadCellsFrom,Sem.run_bind,jI h0,Result.andThen_ok]
   rw[ih (i+1) (acc.push v) (fun k u hk=>by
    have:=hc (k+1) u (by simpa using hk)
    rwa[show i+(k+1)=i+1+k by omega] at this)]
   simp
theorem mn {f:Nat->Option Value}:∀(n o:Nat) {l:List Value},jU f o n=some l->l.length=n/\∀k v,l[k]? = some v->f (o+k)=some v
 | 0,o,l,h=>by
   simp only[jU,Option.some.injEq] at h
   subst h
   exact ⟨rfl,fun k v hk=>by simp at hk⟩
 | n+1,o,l,h=>by
   simp only[jU] at h
   split at h
   ·rename_i v l0 h1 h2
    injection h with h
    subst h
    obtain ⟨e1,e2⟩:=mn n (o+1) h2
    refine ⟨by simp[e1],fun k u hk => ?_⟩
    cases k with
    | zero=>simp at hk;subst hk;exact h1
    | succ k=>rw[show o+(k+1)=o+1+k by omega];exact e2 k u (by simpa using hk)
   ·cases h
theorem vh {Q:Nat->Value->Prop} {R:Value->Value->Prop}:∀(l:List Value),(∀(k:Nat) (v:Value),l[k]? = some v->∃v',Q k v'/\R v v')->∃l':List Value,l'.length=l.length/\(∀(k:Nat) (v:Value),l'[k]? = some v->Q k v)/\∀(k:Nat) (v:Value),l[k]? = some v->∃v',l'[k]? = some v'/\R v v'
 | [],_=>⟨[],rfl,fun k v h=>by simp at h,fun k v h=>by simp at h⟩
 | v::l,h=>by
   obtain ⟨v',a1,a2⟩:=h 0 v rfl
   obtain ⟨l',b1,b2,b3⟩:=vh (Q:=fun k=>Q (k+1)) l (fun k u hk=>h (k+1) u (by simpa using hk))
   refine ⟨v'::l',by simp[b1],fun k u hk => ?_,fun k u hk => ?_⟩
   ·cases k with
    | zero=>simp at hk;subst hk;exact a1
    | succ k=>exact b2 k u (by simpa using hk)
   ·cases k with
    | zero=>simp at hk;subst hk;exact ⟨v',rfl,a2⟩
    | succ k=>simpa using b3 k u (by simpa using hk)
theorem HR.loads (H:HR P ρ N h w) {a a':Addr} {n:Nat} (ha:n=0\/∃i,AR ρ a a' i) {l:List Value} (hv:h.loads a n=some l) :
  ∃l':Array Value,(loadCells a' n).run P w=.ok l' w/\VRs ρ l l'.toList/\l.length=n:=by
 cases n with
 | zero =>
   simp only[Hp.loads,Option.some.injEq] at hv
   subst hv
   exact ⟨#[],by simp[loadCells,loadCellsFrom],.nil,rfl⟩
 | succ n =>
   obtain ⟨i,ha⟩:=ha.resolve_left (by simp)
   simp only[Hp.loads] at hv
   split at hv
   ·cases hv
   ·split at hv
    ·rename_i hb
     have hb':a.block<h.base:=by simpa using hb
     obtain ⟨e1,e2⟩:=mn _ _ hv
     have h2:=ha.2.1
     rw[H.rid _ hb'] at h2
     injection h2 with h2
     have ha':a'=⟨a.block,a.off,none⟩:=by rw[ha.fn,<-h2,Nat.zero_add]
     obtain ⟨l',l1,l2,l3⟩:=vh (Q:=fun k v=>w.cell? ⟨a.block,a.off+k,none⟩=some v) (R:=VR ρ) l (fun k v hk=>by
      obtain ⟨v',q1,q2⟩:=H.rom _ _ _ hb' (e2 k v hk)
      exact ⟨v',q1,q2⟩)
     refine ⟨l'.toArray,?_,VRs.of_get l1 l3,e1⟩
     have:=gx (P:=P) (w:=w) (a:=a') l' 0 #[] (fun k v hk=>by
      rw[(ha.add (0+k)).fn,<-h2]
      simp only[mT,Nat.zero_add]
      exact l2 k v hk)
     rw[l1,e1] at this
     simpa[loadCells] using this
    split at hv
    ·rename_i r hr
     obtain ⟨arr,e,fr,hw,hR,_⟩:=H.row hr ha.2.1
     obtain ⟨h1,h2⟩:=j3 _ _ _ hv
     have hlen:l.length=n+1:=by rw[h1,List.length_take];omega
     have hle:a.off+(n+1)<=r.c.length:=by simp only[List.length_drop] at h2;omega
     have hle':i.s+a.off+(n+1)<=arr.size:=by have:=hR.2.1;omega
     let l':List Value:=(arr.toList.drop (i.s+a.off)).take (n+1)
     have hl':l'.length=n+1:=by simp[l'];omega
     have hg:∀k v,l'[k]? = some v->arr[i.s+a.off+k]? = some v:=by
      intro k v hk
      simp only[l',List.getElem?_take,List.getElem?_drop] at hk
      split at hk
      ·simpa using hk
      ·cases hk
     refine ⟨l'.toArray,?_,VRs.of_get (by simp[hl',hlen]) (fun k v hk => ?_),hlen⟩
     ·have:=gx (P:=P) (w:=w) (a:=a') l' 0 #[] (fun k v hk=>by
       rw[(ha.add (0+k)).fn]
       simp only[World.cell?,hw,mT]
       have:=hg k v hk
       simpa[Nat.add_assoc] using this)
      rw[hl'] at this
      simpa[loadCells] using this
     ·have hk':r.c[a.off+k]? = some v:=by
       rw[h1,List.getElem?_take] at hk
       split at hk
       ·simpa using hk
       ·cases hk
      obtain ⟨v',h3,h4⟩:=hR.2.2.2.1 _ _ hk'
      have hkn:k<n+1:=by
       rcases Nat.lt_or_ge k (n+1) with h|h
       ·exact h
       ·rw[List.getElem?_eq_none (by omega)] at hk;cases hk
      refine ⟨v',?_,h4⟩
      simp only[l',List.getElem?_take,List.getElem?_drop,hkn,if_true]
      simpa[Nat.add_assoc] using h3
    ·cases hv
def over (arr:Array Value) (k:Nat):List Value->Array Value
 | []=>arr
 | v::vs=>over (arr.setIfInBounds k v) (k+1) vs
theorem cO:∀(vs:List Value) (arr:Array Value) (k:Nat),(over arr k vs).size=arr.size
 | [],_,_=>rfl
 | v::vs,arr,k=>by simp[over,cO vs]
theorem fQ:∀(vs:List Value) (arr:Array Value) (k:Nat),k+vs.length<=arr.size->∀j,(over arr k vs)[j]? = if k<=j/\j<k+vs.length then vs[j - k]? else arr[j]?
 | [],arr,k,_,j=>by rw[if_neg (by simp)];rfl
 | v::vs,arr,k,hk,j=>by
   simp only[List.length_cons] at hk
   rw[over,fQ vs _ _ (by simp;omega)]
   by_cases h0:j=k
   ·subst h0
    rw[if_neg (by omega),if_pos (by simp)]
    simp only[Nat.sub_self,gC0]
    rw[Array.getElem?_setIfInBounds_self_of_lt (by omega)]
   ·by_cases h1:k+1<=j/\j<k+1+vs.length
    ·rw[if_pos h1,if_pos (by simp;omega),show j - k=(j - (k+1))+1 by omega,gC1]
    ·rw[if_neg h1,if_neg (by simp;omega),Array.getElem?_setIfInBounds_ne (by omega)]
def World.putBlock (w:World) (b:Nat) (o:Obj):World:={ w with heap:=w.heap.setIfInBounds b o }
theorem cT (w:World) (b:Nat) (o:Obj) (k:Nat) (hb:b<w.heap.size):(World.putBlock w b o).heap[k]? = if k=b then some o else w.heap[k]? := by
 unfold World.putBlock
 simp only[]
 by_cases hk:k=b
 ·subst hk;rw[if_pos rfl,Array.getElem?_setIfInBounds_self_of_lt hb]
 ·rw[if_neg hk,Array.getElem?_setIfInBounds_ne (fun e=>hk e.symm)]
theorem dy (w:World) (b:Nat) (o:Obj):(World.putBlock w b o).heap.size=w.heap.size:=by simp[World.putBlock]
theorem jJ (w:World) (b:Nat) (o:Obj) (h:w.heap[b]? = some o):World.putBlock w b o=w:=by
 obtain ⟨hb,he⟩:=Array.getElem?_eq_some_iff.1 h
 unfold World.putBlock
 have:w.heap.setIfInBounds b o=w.heap:=by
  apply Array.ext
  ·simp
  ·intro k h1 h2
   by_cases hk:b=k
   ·subst hk;simp[he]
   ·rw[Array.getElem_setIfInBounds (by simpa using h1),if_neg hk]
 rw[this]
theorem r7 {w:World} {b:Nat} {arr:Array Value} {e:TypeId} {fr:Nat×Nat} (hb:w.heap[b]? = some (.cells arr e fr)) (o:Nat) (v:Value) :
  w.setCell ⟨b,o,none⟩ v=World.putBlock w b (.cells (arr.setIfInBounds o v) e fr):=by
 obtain ⟨hlt,he⟩:=Array.getElem?_eq_some_iff.1 hb
 unfold World.setCell World.putBlock
 congr 1
 apply Array.ext
 ·simp
 ·intro k h1 h2
  by_cases hk:b=k
  ·subst hk
   simp[Array.getElem_modify,he]
  ·rw[Array.getElem_setIfInBounds (by simpa using h2),if_neg hk]
   simp[Array.getElem_modify,hk]
theorem eD {b:Nat} {e:TypeId} {fr:Nat×Nat} (off:Nat):∀(vs:List Value) (i:Nat) (w:World) (arr:Array Value),w.heap[b]? = some (.cells arr e fr) ->
  (∀k,k<arr.size->(fr.1<=k&&k<fr.2)=false)->off+i+vs.length<=arr.size->vs.all oneCell=true ->
  (storeCells ⟨b,off,none⟩ vs i).run P w=.ok () (World.putBlock w b (.cells (over arr (off+i) vs) e fr))
 | [],i,w,arr,hb,_,_,_=>by
   simp only[storeCells,over,Sem.run_pure]
   rw[jJ w b _ hb]
 | v::vs,i,w,arr,hb,hf,hl,hone=>by
   simp only[List.length_cons] at hl
   simp only[List.all_cons,Bool.and_eq_true] at hone
   have hlt:b<w.heap.size:=(Array.getElem?_eq_some_iff.1 hb).1
   have ha:(⟨b,off,none⟩:Addr).add i=⟨b,off+i,none⟩:=by unfold Addr.add;split<;>simp_all
   have hc:w.cell? ⟨b,off+i,none⟩=some (arr[off+i]'(by omega)):=by
    simp[World.cell?,hb,Array.getElem?_eq_getElem (show off+i<arr.size by omega)]
   have hfz:w.frozen? ⟨b,off+i,none⟩=false:=by
    simp only[World.frozen?,hb]
    exact hf _ (by omega)
   simp only[storeCells,ha,Sem.run_bind,run_store P w _ _ _ (by rw[<-ue];exact hone.1),hc,hfz,Bool.false_eq_true,if_false,Result.andThen_ok]
   rw[r7 hb]
   rw[eD off vs (i+1) _ (arr.setIfInBounds (off+i) v) (by rw[cT _ _ _ _ hlt,if_pos rfl]) (fun k hk=>hf k (by simpa using hk)) (by simp;omega) hone.2]
   simp only[over]
   unfold World.putBlock
   simp[Nat.add_assoc,Array.setIfInBounds_setIfInBounds]
theorem sc {l:List Mem} {b lo hi:Nat} {m:Mem} (h:m∈qN l b lo hi):m∈l/\(m.b=b\/hi<=m.lo\/m.hi<=lo):=by
 unfold qN at h
 rw[List.mem_filter] at h
 refine ⟨h.1,?_⟩
 have h2:=h.2
 simp only[Bool.or_eq_true,Nat.ble_eq] at h2
 rcases h2 with (h2|h2)|h2
 ·exact .inl (by simpa using h2)
 ·exact .inr (.inl h2)
 ·exact .inr (.inr h2)
theorem ff {h:Hp} {b:Nat} {r:Row} (hr:h.row b=some r):h.objs.get b=some (.cells r)/\(r.fam=0\/∃l,h.fams.get r.fam=some l/\∃m∈l,m.b=b):=by
 unfold Hp.row at hr
 split at hr
 ·rename_i q hq
  split at hr
  ·rename_i h0
   injection hr with hr
   subst hr
   exact ⟨hq,.inl h0⟩
  ·rename_i f h0
   split at hr
   ·rename_i l hl
    split at hr
    ·rename_i ha
     injection hr with hr
     subst hr
     refine ⟨hq,.inr ⟨l,by rw[h0];exact hl,?_⟩⟩
     rw[List.any_eq_true] at ha
     obtain ⟨m,hm,he⟩:=ha
     exact ⟨m,hm,by simpa using he⟩
    ·cases hr
   ·cases hr
 ·cases hr
theorem iO {h:Hp} {b:Nat} {r:Row} (hg:h.objs.get b=some (.cells r)) (hf:r.fam=0\/∃l,h.fams.get r.fam=some l/\∃m∈l,m.b=b):h.row b=some r:=by
 unfold Hp.row
 rw[hg]
 simp only[]
 split
 ·rfl
 ·rename_i f h0
  obtain ⟨l,hl,m,hm,he⟩:=hf.resolve_left (by omega)
  rw[h0] at hl
  rw[hl]
  simp only[]
  have:(l.any fun m=>Nat.beq m.b b)=true:=List.any_eq_true.2 ⟨m,hm,by simpa using he⟩
  rw[this]
end
section
variable {P:Program} {ρ:Rho} {N:Bs} {h:Hp} {w:World}
theorem HR.rom_next (H:HR P ρ N h w) {ρ1:Rho} (hle:ρ.le ρ1) {w1:World} (B:Below N w w1):∀b k v,b<h.base->h.ro b k=some v->∃v',w1.cell? ⟨b,k,none⟩=some v'/\VR ρ1 v v':=fun b k v hb hv =>
 let ⟨v',e,r⟩:=H.rom b k v hb hv
 ⟨v',(sk B (lTl hb H.bn)).trans e,r.mono hle⟩
theorem jj {b:Nat} {o:Obj} (hb:N.n<=b):Below N w (World.putBlock w b o) :=
 ⟨rfl,rfl,rfl,by rw[dy];exact lRf _,fun k hk=>by
  unfold World.putBlock
  rw[Array.getElem?_setIfInBounds_ne (by omega)]⟩
theorem HR.put_alone (H:HR P ρ N h w) {b:Nat} {i:Img} (hi:ρ b=some i) {o0 o:ak} {o':Obj} (hget:h.objs.get b=some o0)
  (hno:∀r,o0≠.cells r) (hno':∀r,o≠.cells r) (hR:ObjR P ρ i o o'):HR P ρ N (h.put b o) (World.putBlock w i.b o')/\Below N w (World.putBlock w i.b o'):=by
 have hlo:=H.lo b i hi
 have hobjs:∀d,(h.put b o).objs.get d=if d=b then some o else h.objs.get d:=fun d=>Tr.get_put _ _ _ _
 refine ⟨⟨?_,H.dom,fun d j hj=>by rw[dy];exact H.lo d j hj,?_,?_,?_,?_,H.nf0,by rw[dy];exact H.base,H.gho,H.bn,H.rid,fun d q hq => ?_,H.rom_next (Rho.le_refl _) (jj (hlo.1 (H.low _ _ hget)))⟩,jj (hlo.1 (H.low _ _ hget))⟩
 ·intro d q j hq hal hj
  rw[hobjs] at hq
  by_cases hd:d=b
  ·subst hd
   rw[if_pos rfl] at hq
   injection hq with hq
   subst hq
   rw[hi] at hj
   injection hj with hj
   subst hj
   exact ⟨o',by rw[cT _ _ _ _ hlo.2,if_pos rfl],hR⟩
  ·rw[if_neg hd] at hq
   have hal':h.alive d:=by
    intro r hr
    have:=hal r (by rw[hobjs,if_neg hd];exact hr)
    obtain ⟨h1,h2⟩:=ff this
    rw[hobjs,if_neg hd] at h1
    exact iO h1 h2
   obtain ⟨q',h1,h2⟩:=H.obj d q j hq hal' hj
   by_cases e:j.b=i.b
   ·obtain ⟨r,_,h3,_⟩:=H.inj b d i j hi hj (fun e=>hd e.symm) e.symm
    rw[hget] at h3
    injection h3 with h3
    exact absurd h3 (hno r)
   ·exact ⟨q',by rw[cT _ _ _ _ hlo.2,if_neg e];exact h1,h2⟩
 ·intro d f j k hj hk hne e
  obtain ⟨r,q,h1,h2,h3⟩:=H.inj d f j k hj hk hne e
  refine ⟨r,q,?_,?_,h3⟩
  ·rw[hobjs,if_neg (fun e=>by subst e;rw[hget] at h1;injection h1 with h1;exact hno r h1)];exact h1
  ·rw[hobjs,if_neg (fun e=>by subst e;rw[hget] at h2;injection h2 with h2;exact hno q h2)];exact h2
 ·intro d r hr
  rw[hobjs] at hr
  by_cases hd:d=b
  ·subst hd;rw[if_pos rfl] at hr;injection hr with hr;exact absurd hr (hno' r)
  ·rw[if_neg hd] at hr;exact H.famlt d r hr
 ·intro f l m hl hm hf hf0
  obtain ⟨q,h1,h2⟩:=H.mem f l m hl hm hf hf0
  refine ⟨q,?_,h2⟩
  rw[hobjs,if_neg (fun e=>by rw[e] at h1;rw[hget] at h1;injection h1 with h1;exact hno q h1)]
  exact h1
 ·intro d q hq
  rw[hobjs] at hq
  by_cases hd:d=b
  ·rw[hd];exact H.cover b _ hget
  ·rw[if_neg hd] at hq;exact H.cover d q hq
 ·rw[hobjs] at hq
  by_cases hd:d=b
  ·rw[hd];exact H.low b _ hget
  ·rw[if_neg hd] at hq;exact H.low d q hq
theorem HR.stores (H:HR P ρ N h w) {a a':Addr} {vs vs':List Value} (ha:vs=[]\/∃i,AR ρ a a' i) (hvs:VRs ρ vs vs') {h1:Hp} (hs:h.stores a vs=some h1) :
  ∃w1,(storeCells a' vs' 0).run P w=.ok () w1/\HR P ρ N h1 w1/\Below N w w1:=by
 cases hvs with
 | nil =>
   simp only[Hp.stores,Option.some.injEq] at hs
   subst hs
   exact ⟨w,by simp[storeCells],H,Below.refl _ _⟩
 | @cons v v' l l' hv hl =>
   obtain ⟨i,ha⟩:=ha.resolve_left (by simp)
   simp only[Hp.stores] at hs
   split at hs
   ·cases hs
   split at hs
   ·cases hs
   rename_i hone
   split at hs
   ·cases hs
   rename_i r hr
   split at hs
   ·cases hs
   rename_i c hc
   have hi:=ha.2.1
   obtain ⟨arr,e,fr,hw,hR,hget⟩:=H.row hr hi
   obtain ⟨hgr,hfam⟩:=ff hr
   have hlo:=H.lo _ i hi
   obtain ⟨c1,c2,c3⟩:=gw _ _ _ _ hc
   have hvl:(v'::l').length=(v::l).length:=VRs.length (.cons hv hl)
   have hone':(v'::l').all oneCell=true:=by
    have aux:∀{x y:List Value},VRs ρ x y->x.all oneCell=true->y.all oneCell=true:=by
     intro x y hxy
     induction x generalizing y with
     | nil=>cases hxy;exact fun _=>rfl
     | cons p x ih =>
       cases hxy with
       | cons hp hx =>
         intro hh
         simp only[List.all_cons,Bool.and_eq_true] at hh ⊢
         exact ⟨by rw[hp.oneCell];exact hh.1,ih hx hh.2⟩
    exact aux (.cons hv hl) hone
   have hin:i.s+a.off+(v'::l').length<=arr.size:=by have:=hR.2.1;omega
   have hrun:=eD (P:=P) (b:=i.b) (e:=e) (fr:=fr) (i.s+a.off) (v'::l') 0 w arr hw hR.2.2.2.2.1 (by omega) hone'
   rw[Nat.add_zero] at hrun
   rw[<-ha.fn] at hrun
   have hBP:=fun o=>jj (w:=w) (o:=o) (hlo.1 (H.low _ _ hget))
   refine ⟨_,hrun,?_,hBP _⟩
   have hRow:CQ P ρ i { r with c:=c } (over arr (i.s+a.off) (v'::l')) e fr:=by
    refine ⟨hR.1,by rw[cO];simp only[c1];exact hR.2.1,by rw[cO];exact hR.2.2.1,?_,by rw[cO];exact hR.2.2.2.2.1,hR.2.2.2.2.2⟩
    intro k u hk
    have hk':c[k]? = some u:=hk
    rw[c3] at hk'
    rw[fQ _ _ _ hin]
    by_cases hkr:a.off<=k/\k<a.off+(v::l).length
    ·rw[if_pos hkr] at hk'
     rw[if_pos (by omega),show i.s+k - (i.s+a.off)=k - a.off by omega]
     exact VRs.get (.cons hv hl) hk'
    ·rw[if_neg hkr] at hk'
     rw[if_neg (by omega)]
     exact hR.2.2.2.1 k u hk'
   have key:∀h1:Hp,h1.objs=(h.put a.block (.cells { r with c:=c })).objs->h1.next=h.next->h1.nfam=h.nfam->h1.base=h.base->h1.ro=h.ro ->
     (∀f l2,h1.fams.get f=some l2->f<h.nfam->∃l1,h.fams.get f=some l1/\(∀m∈l2,m∈l1)/\(f=r.fam->f≠0->∀m∈l2,m.b=a.block\/r.base+a.off+(v::l).length<=m.lo\/m.hi<=r.base+a.off)) ->
     HR P ρ N h1 (World.putBlock w i.b (.cells (over arr (i.s+a.off) (v'::l')) e fr)):=by
    intro h1 e1 e2 e3 e4 e5 hfams
    have hobjs:∀d,h1.objs.get d=if d=a.block then some (.cells { r with c:=c }) else h.objs.get d:=fun d=>by rw[e1];exact Tr.get_put _ _ _ _
    refine ⟨?_,fun d j hj=>by rw[e2];exact H.dom d j hj,fun d j hj=>by rw[dy,e4];exact H.lo d j hj,?_,?_,?_,?_,by rw[e3];exact H.nf0,by rw[dy];exact H.base,fun b hb=>by rw[e2];exact H.gho b hb,by rw[e4];exact H.bn,by rw[e4];exact H.rid,fun d q hq => ?_,by rw[e4,e5];exact H.rom_next (Rho.le_refl _) (hBP _)⟩
    ·intro d q j hq hal hj
     rw[hobjs] at hq
     by_cases hd:d=a.block
     ·subst hd
      rw[if_pos rfl] at hq
      injection hq with hq
      subst hq
      rw[hi] at hj
      injection hj with hj
      subst hj
      exact ⟨.cells (over arr (i.s+a.off) (v'::l')) e fr,by rw[cT _ _ _ _ hlo.2,if_pos rfl],hRow⟩
     ·rw[if_neg hd] at hq
      have hal2:∀q',h.objs.get d=some (.cells q')->q'.fam=0\/∃l2,h1.fams.get q'.fam=some l2/\∃m∈l2,m.b=d:=by
       intro q' hq'
       have:=hal q' (by rw[hobjs,if_neg hd];exact hq')
       exact (ff this).2
      have hal':h.alive d:=by
       intro q' hq'
       refine iO hq' ?_
       rcases hal2 q' hq' with h0|⟨l2,h2,m,hm,he⟩
       ·exact .inl h0
       ·obtain ⟨l1,h3,h4,_⟩:=hfams _ _ h2 (H.famlt d q' hq')
        exact .inr ⟨l1,h3,m,h4 m hm,he⟩
      obtain ⟨q',g1,g2⟩:=H.obj d q j hq hal' hj
      by_cases ej:j.b=i.b
      ·obtain ⟨r0,q0,g3,g4,g5,g6,g7⟩:=H.inj a.block d i j hi hj (fun e=>hd e.symm) ej.symm
       rw[hget] at g3
       injection g3 with g3
       injection g3 with g3
       subst g3
       rw[hq] at g4
       injection g4 with g4
       subst g4
       cases q'<;>simp only[ObjR] at g2
       rename_i arr2 e2' fr2
       rw[ej,hw] at g1
       injection g1 with g1
       injection g1 with g1a g1b g1c
       subst g1a
       subst g1b
       subst g1c
       refine ⟨_,by rw[ej,cT _ _ _ _ hlo.2,if_pos rfl],?_⟩
       refine ⟨g2.1,by rw[cO];exact g2.2.1,by rw[cO];exact g2.2.2.1,?_,by rw[cO];exact g2.2.2.2.2.1,g2.2.2.2.2.2⟩
       rcases hal2 q0 hq with h0|⟨l2,h2,m,hm,he⟩
       ·exact absurd h0 (by omega)
       ·obtain ⟨l1,h3,h4,h5⟩:=hfams _ _ h2 (H.famlt d q0 hq)
        obtain ⟨q1,m1,m2,m3,m4⟩:=H.mem _ _ m h3 (h4 m hm) (H.famlt d q0 hq) (by omega)
        rw[he,hq] at m1
        injection m1 with m1
        injection m1 with m1
        subst m1
        have h6:=h5 g5.symm (by omega) m hm
        have h7:=h6.resolve_left (fun e=>hd (he.symm.trans e))
        intro k u hk
        have hkl:k<q0.c.length:=by
         rcases Nat.lt_or_ge k q0.c.length with h|h
         ·exact h
         ·rw[List.getElem?_eq_none h] at hk;cases hk
        rw[fQ _ _ _ hin,if_neg (by omega)]
        exact g2.2.2.2.1 k u hk
      ·exact ⟨q',by rw[cT _ _ _ _ hlo.2,if_neg ej];exact g1,g2⟩
    ·intro d f j k hj hk hne ejk
     obtain ⟨r0,q0,g1,g2,g3,g4,g5⟩:=H.inj d f j k hj hk hne ejk
     by_cases hd:d=a.block
     ·have hf:f≠a.block:=fun e=>hne (hd.trans e.symm)
      rw[hd,hget] at g1
      injection g1 with g1
      injection g1 with g1
      subst g1
      exact ⟨{ r with c:=c },q0,by rw[hobjs,if_pos hd],by rw[hobjs,if_neg hf];exact g2,g3,g4,g5⟩
     ·by_cases hf:f=a.block
      ·rw[hf,hget] at g2
       injection g2 with g2
       injection g2 with g2
       subst g2
       exact ⟨r0,{ r with c:=c },by rw[hobjs,if_neg hd];exact g1,by rw[hobjs,if_pos hf],g3,g4,g5⟩
      ·exact ⟨r0,q0,by rw[hobjs,if_neg hd];exact g1,by rw[hobjs,if_neg hf];exact g2,g3,g4,g5⟩
    ·intro d q hq
     rw[e3]
     rw[hobjs] at hq
     by_cases hd:d=a.block
     ·rw[if_pos hd] at hq
      injection hq with hq
      injection hq with hq
      subst hq
      show r.fam<h.nfam
      exact H.famlt _ r hget
     ·rw[if_neg hd] at hq
      exact H.famlt d q hq
    ·intro f l2 m hl2 hm hf hf0
     rw[e3] at hf
     obtain ⟨l1,h3,h4,_⟩:=hfams f l2 hl2 hf
     obtain ⟨q1,m1,m2,m3,m4⟩:=H.mem f l1 m h3 (h4 m hm) hf hf0
     by_cases hd:m.b=a.block
     ·rw[hd,hget] at m1
      injection m1 with m1
      injection m1 with m1
      subst m1
      exact ⟨{ r with c:=c },by rw[hobjs,if_pos hd],m2,m3,by simpa[c1] using m4⟩
     ·exact ⟨q1,by rw[hobjs,if_neg hd];exact m1,m2,m3,m4⟩
    ·intro d q hq
     rw[hobjs] at hq
     rw[e2]
     by_cases hd:d=a.block
     ·rw[hd];exact H.cover _ _ hget
     ·rw[if_neg hd] at hq;exact H.cover d q hq
    ·rw[hobjs] at hq
     rw[e4]
     by_cases hd:d=a.block
     ·rw[hd];exact H.low _ _ hget
     ·rw[if_neg hd] at hq;exact H.low d q hq
   split at hs
   ·rename_i hf0
    injection hs with hs
    subst hs
    refine key _ rfl rfl rfl rfl rfl (fun f l2 hl2 _=>⟨l2,hl2,fun _ hm=>hm,fun e1 e2=>absurd (e1.trans hf0) e2⟩)
   ·rename_i f hf0
    split at hs
    ·cases hs
    ·rename_i l0 hl0
     injection hs with hs
     subst hs
     have hfl:=H.famlt _ _ hget
     have hset:∀g,(h.fams.put (f+1) (qN l0 a.block (r.base+a.off) (r.base+a.off+(v::l).length))).get g=if g=f+1 then some (qN l0 a.block (r.base+a.off) (r.base+a.off+(v::l).length)) else h.fams.get g :=
      fun g=>Tr.get_put _ _ _ _
     refine key _ rfl rfl rfl rfl rfl (fun g l2 hl2 _ => ?_)
     simp only[hset] at hl2
     by_cases hg:g=f+1
     ·rw[if_pos hg] at hl2
      injection hl2 with hl2
      subst hl2
      exact ⟨l0,by rw[hg];exact hl0,fun m hm=>(sc hm).1,fun _ _ m hm=>(sc hm).2⟩
     ·rw[if_neg hg] at hl2
      exact ⟨l2,hl2,fun _ hm=>hm,fun e1 _=>absurd (e1.trans hf0) hg⟩
def Rho.put (ρ:Rho) (b:Nat) (i:Img):Rho:=fun d=>if d=b then some i else ρ d
theorem HR.le_put (H:HR P ρ N h w) (i:Img):ρ.le (ρ.put h.next i):=by
 intro b j hj
 have:=H.dom b j hj
 unfold Rho.put
 rw[if_neg (by omega)]
 exact hj
theorem kB (w:World) (o:Obj):(w.alloc o).heap=w.heap.push o:=rfl
theorem HR.base_next (H:HR P ρ N h w):h.base<=h.next:=by
 rcases Nat.eq_zero_or_pos h.base with e|e
 ·omega
 ·have:=H.dom _ _ (H.rid (h.base - 1) (by omega))
  omega
theorem HR.new (H:HR P ρ N h w) {o:ak} {b:Nat} {h1:Hp} (hn:h.new o=some (b,h1)) {o':Obj} (i:Img) (hib:i.b=w.heap.size)
  (hR:ObjR P (ρ.put b i) i o o') (hfam:∀r,o=.cells r->r.fam=0):b=h.next/\HR P (ρ.put b i) N h1 (w.alloc o')/\Below N w (w.alloc o'):=by
 unfold Hp.new at hn
 ·injection hn with hn
  injection hn with hn1 hn2
  subst hn1
  subst hn2
  have hle:=H.le_put i
  have hobjs:∀d,(h.objs.put h.next o).get d=if d=h.next then some o else h.objs.get d:=fun d=>Tr.get_put _ _ _ _
  have hpush:∀k,k<w.heap.size->(w.alloc o').heap[k]? = w.heap[k]? := fun k hk=>Below.heap_alloc w o' k hk
  have hsz:(w.alloc o').heap.size=w.heap.size+1:=by rw[kB];simp
  refine ⟨rfl,⟨?_,?_,?_,?_,?_,?_,?_,H.nf0,by rw[hsz];have:=H.base;omega,fun d hd=>⟨by unfold Rho.put;rw[if_neg (by have:=(H.gho d hd).2;omega)];exact (H.gho d hd).1,by show d<h.next+1;have:=(H.gho d hd).2;omega⟩,H.bn,fun d hd=>hle _ _ (H.rid d hd),fun d q hq => ?_,H.rom_next hle ((Below.refl _ _).alloc H.base _)⟩,(Below.refl _ _).alloc H.base _⟩
  ·intro d q j hq hal hj
   simp only[hobjs] at hq
   by_cases hd:d=h.next
   ·subst hd
    rw[if_pos rfl] at hq
    injection hq with hq
    subst hq
    have:j=i:=by unfold Rho.put at hj;rw[if_pos rfl] at hj;injection hj with hj;exact hj.symm
    subst this
    refine ⟨o',?_,hR⟩
    rw[hib,kB]
    simp
   ·rw[if_neg hd] at hq
    have hj':ρ d=some j:=by unfold Rho.put at hj;rwa[if_neg hd] at hj
    have hal':h.alive d:=by
     intro r hr
     have:=hal r (by simp only[hobjs];rw[if_neg hd];exact hr)
     exact iO hr (ff this).2
    obtain ⟨q',g1,g2⟩:=H.obj d q j hq hal' hj'
    exact ⟨q',by rw[hpush _ (H.lo d j hj').2];exact g1,g2.mono hle⟩
  ·intro d j hj
   show d<h.next+1
   by_cases hd:d=h.next
   ·omega
   ·have hj':ρ d=some j:=by unfold Rho.put at hj;rwa[if_neg hd] at hj
    have:=H.dom d j hj'
    omega
  ·intro d j hj
   rw[hsz]
   by_cases hd:d=h.next
   ·have:j=i:=by unfold Rho.put at hj;rw[if_pos hd] at hj;injection hj with hj;exact hj.symm
    subst this
    have:=H.base
    exact ⟨fun _=>by omega,by omega⟩
   ·have hj':ρ d=some j:=by unfold Rho.put at hj;rwa[if_neg hd] at hj
    have:=H.lo d j hj'
    exact ⟨this.1,by omega⟩
  ·intro d f j k hj hk hne ejk
   have cs:∀d j,(ρ.put h.next i) d=some j->(d=h.next/\j=i)\/(d≠h.next/\ρ d=some j):=by
    intro d j hj
    unfold Rho.put at hj
    by_cases hd:d=h.next
    ·rw[if_pos hd] at hj;injection hj with hj;exact .inl ⟨hd,hj.symm⟩
    ·rw[if_neg hd] at hj;exact .inr ⟨hd,hj⟩
   rcases cs d j hj with ⟨e1,e2⟩|⟨e1,e2⟩<;>rcases cs f k hk with ⟨f1,f2⟩|⟨f1,f2⟩
   ·exact absurd (e1.trans f1.symm) hne
   ·have:=(H.lo f k f2).2
    subst e2
    omega
   ·have:=(H.lo d j e2).2
    subst f2
    omega
   ·obtain ⟨r,q,g1,g2,g3⟩:=H.inj d f j k e2 f2 hne ejk
    exact ⟨r,q,by simp only[hobjs];rw[if_neg e1];exact g1,by simp only[hobjs];rw[if_neg f1];exact g2,g3⟩
  ·intro d r hr
   simp only[hobjs] at hr
   by_cases hd:d=h.next
   ·rw[if_pos hd] at hr
    injection hr with hr
    rw[hfam r hr]
    exact H.nf0
   ·rw[if_neg hd] at hr
    exact H.famlt d r hr
  ·intro f l m hl hm hf hf0
   obtain ⟨q,g1,g2⟩:=H.mem f l m hl hm hf hf0
   by_cases hd:m.b=h.next
   ·have:=H.cover _ _ g1
    omega
   ·exact ⟨q,by simp only[hobjs];rw[if_neg hd];exact g1,g2⟩
  ·intro d q hq
   simp only[hobjs] at hq
   show d<h.next+1
   by_cases hd:d=h.next
   ·omega
   ·rw[if_neg hd] at hq
    have:=H.cover d q hq
    omega
  ·simp only[hobjs] at hq
   show h.base<=d
   by_cases hd:d=h.next
   ·rw[hd];exact H.base_next
   ·rw[if_neg hd] at hq
    exact H.low d q hq
theorem HR.less {n:Nat} {g g':Nat->Prop} (H:HR P ρ ⟨n,g⟩ h w) (hg:∀b,g' b->g b):HR P ρ ⟨n,g'⟩ h w :=
 ⟨H.obj,H.dom,H.lo,H.inj,H.famlt,H.mem,H.cover,H.nf0,H.base,fun b hb=>H.gho b (hg b hb),H.bn,H.rid,H.low,H.rom⟩
theorem HR.room {n:Nat} {g:Nat->Prop} (H:HR P ρ ⟨n,g⟩ h w) (k:Nat) :
  HR P ρ ⟨n,fun b=>g b\/(h.next<=b/\b<h.next+k)⟩ { h with next:=h.next+k } w:=by
 refine ⟨fun b o i ho hal hi=>H.obj b o i ho (fun r hr=>iO hr (ff (hal r hr)).2) hi,fun b i hi => ?_,H.lo,fun b d i j hi hj hne e=>H.inj b d i j hi hj hne e,H.famlt,H.mem,fun b o ho => ?_,H.nf0,H.base,fun b hb => ?_,H.bn,H.rid,H.low,H.rom⟩
 ·have:=H.dom b i hi
  show b<h.next+k
  omega
 ·have:=H.cover b o ho
  show b<h.next+k
  omega
 ·show ρ b=none/\b<h.next+k
  rcases hb with hb|hb
  ·have:=H.gho b hb
   exact ⟨this.1,by omega⟩
  ·refine ⟨?_,hb.2⟩
   cases hr:ρ b with
   | none=>rfl
   | some i =>
     have:=H.dom b i hr
     omega
theorem HR.lay {n:Nat} {g:Nat->Prop} (H:HR P ρ ⟨n,g⟩ h w) {b:Nat} (hb:g b) {o:ak} (ho:∀r,o=.cells r->r.fam=0) (hold:∀r,h.objs.get b=some (.cells r)->r.fam=0) :
  HR P ρ ⟨n,g⟩ (h.put b o) w:=by
 obtain ⟨hnone,hlt⟩:=H.gho b hb
 have hobjs:∀d,(h.put b o).objs.get d=if d=b then some o else h.objs.get d:=fun d=>Tr.get_put _ _ _ _
 have hne:∀d i,ρ d=some i->d≠b:=by
  intro d i hi e
  subst e
  rw[hnone] at hi
  cases hi
 refine ⟨fun d q i hq hal hi => ?_,H.dom,H.lo,fun d f i j hi hj hdf e => ?_,fun d r hr => ?_,fun f l m hl hm hf hf0 => ?_,fun d q hq => ?_,H.nf0,H.base,H.gho,H.bn,H.rid,fun d q hq => ?_,H.rom⟩
 ·have hd:=hne d i hi
  rw[hobjs,if_neg hd] at hq
  refine H.obj d q i hq (fun r hr => ?_) hi
  have:=hal r (by rw[hobjs,if_neg hd];exact hr)
  exact iO hr (ff this).2
 ·obtain ⟨r,q,h1,h2,h3⟩:=H.inj d f i j hi hj hdf e
  exact ⟨r,q,by rw[hobjs,if_neg (hne d i hi)];exact h1,by rw[hobjs,if_neg (hne f j hj)];exact h2,h3⟩
 ·rw[hobjs] at hr
  by_cases hd:d=b
  ·rw[if_pos hd] at hr
   injection hr with hr
   rw[ho r hr]
   exact H.nf0
  ·rw[if_neg hd] at hr
   exact H.famlt d r hr
 ·obtain ⟨q,h1,h2,h3⟩:=H.mem f l m hl hm hf hf0
  have hd:m.b≠b:=by
   intro e
   rw[e] at h1
   exact hf0 (h2.symm.trans (hold q h1))
  exact ⟨q,by rw[hobjs,if_neg hd];exact h1,h2,h3⟩
 ·rw[hobjs] at hq
  by_cases hd:d=b
  ·subst hd;exact hlt
  ·rw[if_neg hd] at hq
   exact H.cover d q hq
 ·rw[hobjs] at hq
  by_cases hd:d=b
  ·subst hd
   rcases Nat.lt_or_ge d h.base with e|e
   ·rw[H.rid d e] at hnone;cases hnone
   ·exact e
  ·rw[if_neg hd] at hq
   exact H.low d q hq
theorem jk {n:Nat} {g:Nat->Prop} {base k:Nat} (hg:∀i,i<k->g (base+i)):∀(l:List (Nat×ak)) (h:Hp),HR P ρ ⟨n,g⟩ h w->(∀i,i<k->∀r,h.objs.get (base+i)=some (.cells r)->r.fam=0) ->
  HR P ρ ⟨n,g⟩ (jX base k l h) w
 | [],h,H,_=>H
 | (i,o)::l,h,H,hold=>by
   simp only[jX]
   split
   ·rename_i h1 h2
    have h1':i<k:=by simpa[Nat.blt_eq] using h1
    have ho:∀r,o=.cells r->r.fam=0:=by
     intro r e
     subst e
     simpa[jg] using h2
    refine jk hg l _ (H.lay (hg i h1') ho (hold i h1')) (fun j hj r hr => ?_)
    have:(h.put (base+i) o).objs.get (base+j)=if base+j=base+i then some o else h.objs.get (base+j):=Tr.get_put _ _ _ _
    rw[this] at hr
    split at hr
    ·injection hr with hr
     exact ho r hr
    ·exact hold j hj r hr
   ·exact jk hg l h H hold
theorem HR.ghost {n:Nat} {g g':Nat->Prop} (H:HR P ρ ⟨n,g⟩ h w) {b:Nat} (hb:g b) {o:ak} (hget:h.objs.get b=some o) (hfam:∀r,o=.cells r->r.fam=0) {o':Obj} (i:Img) (hib:i.b=w.heap.size)
  (hR:ρ.le (ρ.put b i)->ObjR P (ρ.put b i) i o o') (hg:∀d,g' d->g d/\d≠b):ρ.le (ρ.put b i)/\HR P (ρ.put b i) ⟨n,g'⟩ h (w.alloc o')/\Below n w (w.alloc o'):=by
 obtain ⟨hnone,hlt⟩:=H.gho b hb
 have hle:ρ.le (ρ.put b i):=by
  intro d j hj
  unfold Rho.put
  rw[if_neg (fun e=>by subst e;rw[hnone] at hj;cases hj)]
  exact hj
 have hpush:∀k,k<w.heap.size->(w.alloc o').heap[k]? = w.heap[k]? := fun k hk=>Below.heap_alloc w o' k hk
 have hsz:(w.alloc o').heap.size=w.heap.size+1:=by rw[kB];simp
 have cs:∀d j,(ρ.put b i) d=some j->(d=b/\j=i)\/(d≠b/\ρ d=some j):=by
  intro d j hj
  unfold Rho.put at hj
  by_cases hd:d=b
  ·rw[if_pos hd] at hj;injection hj with hj;exact .inl ⟨hd,hj.symm⟩
  ·rw[if_neg hd] at hj;exact .inr ⟨hd,hj⟩
 refine ⟨hle,⟨fun d q j hq hal hj => ?_,fun d j hj => ?_,fun d j hj => ?_,fun d f j k hj hk hne ejk => ?_,H.famlt,H.mem,H.cover,H.nf0,by rw[hsz];have:=H.base;show n<=w.heap.size+1;exact Nat.le_succ_of_le this,fun d hd => ?_,H.bn,fun d hd=>hle _ _ (H.rid d hd),H.low,H.rom_next hle ((Below.refl _ _).alloc H.base _)⟩,(Below.refl _ _).alloc H.base _⟩
 ·rcases cs d j hj with ⟨e1,e2⟩|⟨e1,e2⟩
  ·subst e1;subst e2
   rw[hget] at hq
   injection hq with hq
   subst hq
   refine ⟨o',?_,hR hle⟩
   rw[hib,kB]
   simp
  ·obtain ⟨q',g1,g2⟩:=H.obj d q j hq hal e2
   exact ⟨q',by rw[hpush _ (H.lo d j e2).2];exact g1,g2.mono hle⟩
 ·rcases cs d j hj with ⟨e1,e2⟩|⟨e1,e2⟩
  ·subst e1;exact hlt
  ·exact H.dom d j e2
 ·rw[hsz]
  rcases cs d j hj with ⟨e1,e2⟩|⟨e1,e2⟩
  ·subst e2
   have:=H.base
   rw[hib]
   exact ⟨fun _=>this,by omega⟩
  ·have:=H.lo d j e2
   exact ⟨this.1,by omega⟩
 ·rcases cs d j hj with ⟨e1,e2⟩|⟨e1,e2⟩<;>rcases cs f k hk with ⟨f1,f2⟩|⟨f1,f2⟩
  ·exact absurd (e1.trans f1.symm) hne
  ·have:=(H.lo f k f2).2
   subst e2
   omega
  ·have:=(H.lo d j e2).2
   subst f2
   omega
  ·exact H.inj d f j k e2 f2 hne ejk
 ·obtain ⟨h1,h2⟩:=hg d hd
  obtain ⟨h3,h4⟩:=H.gho d h1
  exact ⟨by unfold Rho.put;rw[if_neg h2];exact h3,h4⟩
end
section
theorem fI {a b:IntKind} (h:fO a b=true):a=b:=by cases a<;>cases b<;>first|rfl|cases h
theorem da (a b:Int):gr a b=(a==b):=by
 cases a<;>cases b<;>simp only[gr]
 ·rename_i m n
  rw[Bool.eq_iff_iff]
  simp
  omega
 ·rfl
 ·rfl
 ·rename_i m n
  rw[Bool.eq_iff_iff]
  simp
theorem kx (a b:Int):rR a b=decide (a<=b):=by
 unfold rR
 split
 ·rename_i n hn
  have:0<=b - a:=by rw[hn];exact Int.natCast_nonneg n
  simp;omega
 ·rename_i n hn
  have:b - a<0:=by rw[hn];exact Int.negSucc_lt_zero n
  simp;omega
theorem dH (a b:Int):pA a b=decide (a<b):=by
 unfold pA
 rw[kx]
 rfl
theorem yo (a b:UInt8):Nat.beq a.toNat b.toNat=(a==b):=by
 rw[Bool.eq_iff_iff]
 simp[UInt8.toNat_inj]
theorem CN (a b:UInt8):Nat.blt a.toNat b.toNat=decide (a<b):=by
 rw[Bool.eq_iff_iff]
 simp[UInt8.lt_iff_toNat_lt]
theorem ch:∀a b:List UInt8,eC a b=(a==b)
 | [],[]=>rfl
 | [],_::_=>rfl
 | _::_,[]=>rfl
 | a::x,b::y=>by
   simp only[eC,yo]
   by_cases h:a=b
   ·subst h;simp[ch x y]
   ·have:(a==b)=false:=by simpa using h
    simp[this]
theorem gY:∀a b:List UInt8,dQ a b=Op.bytesLess a b
 | [],[]=>rfl
 | [],_::_=>rfl
 | _::_,[]=>rfl
 | a::x,b::y=>by
   simp only[dQ,yo,CN,Op.bytesLess]
   by_cases h:a<b
   ·simp[h]
   ·by_cases e:a=b
    ·subst e
     simp[gY x y]
    ·have:(a==b)=false:=by simpa using e
     simp[h,this]
variable {P:Program} {ρ:Rho} {N:Bs} {h:Hp} {w:World}
theorem wG {t:TypeId} {op:BinOp} {k:IntKind} {a b:Int} {v:Value} (hv:iB op k a b=some v) (hs:op≠.shl) (hr:op≠.shr) :
  (binOp op t (.int k a) (.int k b)).run P w=.ok v w/\VR ρ v v:=by
 cases op<;>simp only[iB] at hv<;>first
  | (exact absurd rfl hs)
  | (exact absurd rfl hr)
  | (cases hv;done)
  | (injection hv with hv;subst hv;refine ⟨?_,by constructor⟩;simp[binOp,Op.intArith,Op.intCmp,da,kx,dH,bne];done)
  | skip
 all_goals
  split at hv
  ·cases hv
  ·rename_i hb
   injection hv with hv
   subst hv
   rw[da] at hb
   have hb':b≠0:=by simpa using hb
   refine ⟨?_,by constructor⟩
   simp[binOp,Op.intDiv,hb']
theorem wH {op:BinOp} {x y:ByteArray} {v:Value} (hv:nt op x y=some v) (t:TypeId):(binOp op t (.string x) (.string y)).run P w=.ok v w/\VR ρ v v:=by
 have hr:(binOp op t (.string x) (.string y))=Op.stringOp op x y:=by cases op<;>rfl
 rw[hr]
 cases op<;>simp only[nt] at hv<;>first
  | (cases hv;done)
  | (injection hv with hv;subst hv;refine ⟨?_,by constructor⟩;simp[Op.stringOp,ByteArray.toList_eq,ch,gY];done)
  | skip
 split at hv
 ·rename_i hl
  injection hv with hv
  subst hv
  refine ⟨?_,by constructor⟩
  have hl':x.data.toList.length+y.data.toList.length<=1000000000:=by simpa using hl
  have hx:x.size=x.data.toList.length:=by rw[Array.length_toList];rfl
  have hy:y.size=y.data.toList.length:=by rw[Array.length_toList];rfl
  have hm:¬(((x.size+y.size:Nat):Int) > IntKind.i64.max):=by
   have:IntKind.i64.max=9223372036854775807:=by decide
   rw[this,hx,hy]
   omega
  have he:x++y=⟨(x.data.toList++y.data.toList).toArray⟩:=by
   rw[ByteArray.ext_iff]
   rw[ByteArray.data_append]
   apply Array.ext'
   simp
  simp only[Op.stringOp,if_neg hm,Sem.run_pure,he]
 ·cases hv
structure WfP (P:Program):Prop where
 mixed:P.follows .mixedOrders=true
theorem al {t:TypeId} {d:TypeDesc} (h:P.underlying t=some d):(underlying t).run P w=.ok d w:=run_underlying h w
theorem dI {t:TypeId} {i:TypeInfo} (h:P.info? t=some i):(typeInfo t).run P w=.ok i w:=run_typeInfo w h
theorem cC {t:TypeId} {i:TypeInfo} (h:P.info? t=some i):(sizeOf t).run P w=.ok i.size w:=by simp[sizeOf,dI h]
theorem cP {t:TypeId} {s:Nat} (h:aA P t=some s):(sizeOf t).run P w=.ok s w/\P.cellsOf t=s:=by
 unfold aA at h
 split at h
 ·rename_i i hi
  injection h with h
  subst h
  exact ⟨cC hi,by simp[Program.cellsOf,hi]⟩
 ·cases h
theorem eF {t:TypeId} {z:Value} (h:bE P t=some z):(zeroValue t).run P w=.ok z w/\VR ρ z z:=by
 unfold bE at h
 split at h
 ·rename_i i hi
  split at h
  ·rename_i v hv
   split at h
   ·rename_i hp
    injection h with h
    subst h
    exact ⟨by simp[zeroValue,dI hi,hv],oe _ _ hp⟩
   ·cases h
  ·cases h
 ·cases h
theorem dJ {t:TypeId} {cs:List Value} {cs':Array Value} {off:Nat} {v:Value} (hv:part P t cs off=some v) (hc:VRs ρ cs cs'.toList) :
  ∃v',(Go.part t cs' off).run P w=.ok v' w/\VR ρ v v':=by
 unfold part at hv
 cases hu:P.underlying t with
 | none=>rw[hu] at hv;cases hv
 | some d =>
   have agg:∀i,P.info? t=some i->(∀w,(isAgg t).run P w=.ok true w)->some (Value.agg ((cs.drop off).take i.size).toArray)=some v ->
     ∃v',(Go.part t cs' off).run P w=.ok v' w/\VR ρ v v':=by
    intro i hi ha e
    injection e with e
    subst e
    refine ⟨.agg (cs'.extract off (off+i.size)),by simp[Go.part,ha,cC hi],.agg ?_⟩
    rw[Array.toList_extract]
    simp only[List.extract_eq_take_drop,Nat.add_sub_cancel_left]
    exact (hc.drop off).take i.size
   have cell:(∀w,(isAgg t).run P w=.ok false w)->cs[off]? = some v->∃v',(Go.part t cs' off).run P w=.ok v' w/\VR ρ v v':=by
    intro ha e
    obtain ⟨v',h1,h2⟩:=hc.get e
    refine ⟨v',?_,h2⟩
    have h1':cs'[off]? = some v':=by simpa using h1
    simp[Go.part,ha,h1']
   rw[hu] at hv
   cases d<;>simp only[] at hv<;>first
    | exact cell (fun w=>by simp[isAgg,al hu]) hv
    | (split at hv
       ·rename_i i hi
        exact agg i hi (fun w=>by simp[isAgg,al hu]) hv
       ·cases hv)
theorem gZ (d:Nat) (xs ys:List Value) (xs' ys':Array Value) (hx:VRs ρ xs xs'.toList) (hy:VRs ρ ys ys'.toList) (E:TypeId->Value->Value->Option Bool)
  (ih:∀t x y r x' y',E t x y=some r->VR ρ x x'->VR ρ y y'->(Op.equalIn d t x' y').run P w=.ok r w):∀(fs:List Field) (r:Bool),
  fs.foldr (fun f k=>match f.name == "_" with
   | true=>k
   | false=>match part P f.type xs f.offset,part P f.type ys f.offset with
     | some p,some q=>match E f.type p q with
       | some true=>k
       | r=>r
     | _,_=>none) (some true)=some r->(Op.eqFields d xs' ys' fs).run P w=.ok r w
 | [],r,hr=>by
   simp only[List.foldr_nil,Option.some.injEq] at hr
   subst hr
   simp[Op.eqFields]
 | f::fs,r,hr=>by
   simp only[List.foldr_cons] at hr
   simp only[Op.eqFields]
   by_cases hn:f.name = "_"
   ·have h1:(f.name == "_")=true:=by simpa using hn
    rw[h1] at hr
    simp only[hn,ne_eq,not_true,if_false]
    exact gZ d xs ys xs' ys' hx hy E ih fs r hr
   ·have h1:(f.name == "_")=false:=by simpa using hn
    rw[h1] at hr
    simp only[] at hr
    simp only[ne_eq,hn,not_false_eq_true,if_true,Sem.run_bind]
    split at hr
    ·rename_i p q hp hq
     obtain ⟨p',h2,h3⟩:=dJ (w:=w) hp hx
     obtain ⟨q',h4,h5⟩:=dJ (w:=w) hq hy
     rw[h2]
     simp only[Result.andThen_ok]
     rw[h4]
     simp only[Result.andThen_ok]
     split at hr
     ·rename_i he
      rw[ih _ _ _ _ _ _ he h3 h5]
      simp only[Result.andThen_ok,Bool.not_true,Bool.false_eq_true,if_false]
      exact gZ d xs ys xs' ys' hx hy E ih fs r hr
     ·rename_i he
      cases hE:E f.type p q with
      | none=>rw[hE] at hr;cases hr
      | some b =>
        cases b with
        | true=>exact absurd hE (by simpa using he)
        | false =>
          rw[hE] at hr
          injection hr with hr
          subst hr
          rw[ih _ _ _ _ _ _ hE h3 h5]
          simp
    ·cases hr
end
section
variable {P:Program} {ρ:Rho} {N:Bs} {h:Hp} {w:World}
theorem aF {a b:Nat} (h:Nat.beq a b=true):a=b:=Nat.eq_of_beq_eq_true h
theorem fP {a b:Nat} (h:Nat.beq a b=false):a≠b:=Nat.ne_of_beq_eq_false h
theorem nT {b:Nat} {arr:Array Value} {e:TypeId} {fr:Nat×Nat} (hb:w.heap[b]? = some (.cells arr e fr)):w.shape? b=some (e,arr.size):=by
 simp[World.shape?,hb]
theorem mi {b o:Nat} {arr:Array Value} {e:TypeId} (hb:w.heap[b]? = some (.cells arr e (0,0))):w.frozen? ⟨b,o,none⟩=false:=by
 simp[World.frozen?,hb]
theorem qU (H:HR P ρ N h w) {a b a' b':Addr} {i j:Img} (ha:AR ρ a a' i) (hb:AR ρ b b' j) :
  (a.block=b.block->(sameAddr a' b').run P w=.ok (Nat.beq a.off b.off) w) /\
  (a.block≠b.block->∀r q,h.row a.block=some r->h.row b.block=some q->r.fam=0->r.grown=false->q.grown=false->(sameAddr a' b').run P w=.ok false w):=by
 constructor
 ·intro e
  have:i=j:=by
   have h1:=ha.2.1
   have h2:=hb.2.1
   rw[e] at h1
   rw[h1] at h2
   exact Option.some.inj h2
  subst this
  rw[ha.fn,hb.fn]
  simp only[sameAddr,beq_self_eq_true,if_true,Sem.run_pure]
  congr 1
  rw[Bool.eq_iff_iff]
  simp
 ·intro e r q hr hq hf hg1 hg2
  obtain ⟨arr,e1,fr,hw,hR,hget⟩:=H.row hr ha.2.1
  obtain ⟨brr,e2,fs,hv,hS,hget2⟩:=H.row hq hb.2.1
  have hne:i.b≠j.b:=by
   intro e3
   obtain ⟨r0,q0,h1,h2,h3,h4,_⟩:=H.inj _ _ i j ha.2.1 hb.2.1 e e3
   rw[hget] at h1
   injection h1 with h1
   injection h1 with h1
   subst h1
   exact h4 hf
  obtain ⟨_,rfl⟩:=hR.2.2.2.2.2.1 hg1
  obtain ⟨_,rfl⟩:=hS.2.2.2.2.2.1 hg2
  have hbeq:(i.b==j.b)=false:=by simpa using hne
  rw[ha.fn,hb.fn]
  simp[sameAddr,hbeq,mi hw,mi hv,noView,viewAt,nT hw,nT hv,mayBeOne,stringish]
theorem AD (H:HR P ρ N h w):∀(d:Nat) (t:TypeId) (x y:Value) (r:Bool),eqv P h d t x y=some r->∀D,d<=D->∀x' y',VR ρ x x'->VR ρ y y'->(Op.equalIn D t x' y').run P w=.ok r w:=by
 intro d
 induction d with
 | zero=>intro t x y r hr;simp[eqv] at hr
 | succ d ih =>
   intro t x y r hr D hD x' y' hx hy
   obtain ⟨D,rfl⟩:∃k,D=k+1:=⟨D - 1,by omega⟩
   simp only[eqv] at hr
   split at hr
   ·
     rename_i hu
     cases hx;cases hy
     injection hr with hr
     subst hr
     simp[Op.equalIn,al hu]
   ·
     rename_i hu
     cases hx;cases hy
     split at hr
     ·rename_i hk
      have:=fI hk
      subst this
      injection hr with hr
      subst hr
      simp[Op.equalIn,al hu,da]
     ·cases hr
   ·
     rename_i hu
     cases hx;cases hy
     injection hr with hr
     subst hr
     rw[run_equalIn_string w D t _ _ hu]
     simp[ByteArray.toList_eq,ch]
   ·
     rename_i hu
     cases hx
     injection hr with hr
     subst hr
     cases hy<;>simp[Op.equalIn,al hu]
   ·rename_i hu
    cases hx
    cases hy
    injection hr with hr
    subst hr
    simp[Op.equalIn,al hu]
   ·
     rename_i hu
     cases hx with
     | ptr ha =>
       cases hy with
       | ptr hb =>
         split at hr
         ·rename_i i _ _ hi
          split at hr
          ·cases hr
          ·rename_i hz
           have hz':i.size≠0:=fP hz
           have hs:=qU H ha hb
           split at hr
           ·rename_i hbl
            split at hr
            ·injection hr with hr
             subst hr
             simp[Op.equalIn,al hu,cC hi,hz',hs.1 (aF hbl)]
            ·cases hr
           ·rename_i hbl
            split at hr
            ·rename_i r0 q0 hr0 hq0
             split at hr
             ·rename_i g1 g2 g3 g4
              injection hr with hr
              subst hr
              have hne:=hs.2 (fP hbl) r0 q0 hr0 hq0 (aF g1) g2 g4
              simp[Op.equalIn,al hu,cC hi,hz',hne]
             ·cases hr
            ·cases hr
         ·cases hr
   ·rename_i hu
    cases hx;cases hy
    injection hr with hr
    subst hr
    simp[Op.equalIn,al hu]
   ·rename_i hu
    cases hx;cases hy
    injection hr with hr
    subst hr
    simp[Op.equalIn,al hu]
   ·rename_i hu
    cases hx;cases hy
    injection hr with hr
    subst hr
    simp[Op.equalIn,al hu]
   ·
     rename_i tx vx ty vy hu
     cases hx with
     | iface hx =>
       cases hy with
       | iface hy =>
         split at hr
         ·rename_i hb
          injection hr with hr
          subst hr
          have:tx≠ty:=fP hb
          simp[Op.equalIn,al hu,this]
         ·rename_i hb
          have:tx=ty:=aF hb
          subst this
          split at hr
          ·rename_i i hi
           split at hr
           ·rename_i hc
            have:=ih _ _ _ _ hr D (by omega) _ _ hx hy
            simp[Op.equalIn,al hu,dI hi,hc,this]
           ·cases hr
          ·cases hr
   ·
     rename_i fields xs ys hu
     cases hx with
     | agg hx =>
       cases hy with
       | agg hy =>
         split at hr
         ·cases hr
         ·rename_i hst
          have hfo:P.fieldsOf t=fields:=by simp[Program.fieldsOf,hu]
          rw[run_equalIn_struct w D t _ _ (by rw[hfo];exact hu) hst,hfo]
          exact gZ D xs.toList ys.toList _ _ hx hy (eqv P h d) (fun t x y r x' y' he hx hy=>ih t x y r he D (by omega) x' y' hx hy) _ _ hr
   ·
     rename_i e xs ys hu
     cases hx with
     | agg hx =>
       cases hy with
       | agg hy =>
         split at hr
         ·rename_i i hi
          have hz:P.cellsOf e=i.size:=by simp[Program.cellsOf,hi]
          split at hr
          ·rename_i p q p1 q1 e1 e2 e3 e4
           obtain ⟨p',f1,g1⟩:=dJ (w:=w) e1 hx
           obtain ⟨q',f2,g2⟩:=dJ (w:=w) e2 hy
           obtain ⟨p1',f3,g3⟩:=dJ (w:=w) e3 hx
           obtain ⟨q1',f4,g4⟩:=dJ (w:=w) e4 hy
           rw[run_equalIn_array (w:=w) D _ _ hu hi,hz]
           split at hr
           ·rename_i h1
            have k1:=ih _ _ _ _ h1 D (by omega) _ _ g1 g2
            have k2:=ih _ _ _ _ hr D (by omega) _ _ g3 g4
            simp only[show List.range 2=[0,1] from rfl,Op.eqItems,Sem.run_bind,f1,f2,f3,f4,Result.andThen_ok,k1,k2,Bool.not_true,Bool.false_eq_true,if_false]
            cases r<;>simp
           ·rename_i rr h1
            have k1:=ih _ _ _ _ hr D (by omega) _ _ g1 g2
            cases r with
            | true=>exact absurd hr h1
            | false=>simp only[show List.range 2=[0,1] from rfl,Op.eqItems,Sem.run_bind,f1,f2,Result.andThen_ok,k1,Bool.not_false,if_true,Sem.run_pure]
          ·cases hr
         ·cases hr
   ·rename_i hu
    cases hx
    injection hr with hr
    subst hr
    cases hy<;>simp[Op.equalIn,al hu]
   ·rename_i hu
    cases hy
    injection hr with hr
    subst hr
    cases hx<;>simp[Op.equalIn,al hu]
   ·rename_i hu
    cases hx
    injection hr with hr
    subst hr
    cases hy<;>simp[Op.equalIn,al hu]
   ·rename_i hu
    cases hy
    injection hr with hr
    subst hr
    cases hx<;>simp[Op.equalIn,al hu]
   ·rename_i hu
    cases hx;cases hy
    injection hr with hr
    subst hr
    simp[Op.equalIn,al hu]
   ·rename_i hu
    cases hx;cases hy
    injection hr with hr
    subst hr
    simp[Op.equalIn,al hu]
   ·rename_i hu
    cases hx;cases hy
    injection hr with hr
    subst hr
    simp[Op.equalIn,al hu]
   ·cases hr
theorem ji (H:HR P ρ N h w) {t:TypeId} {x y x' y':Value} {r:Bool} (hr:eqv P h 40 t x y=some r) (hx:VR ρ x x') (hy:VR ρ y y'):(Op.equal t x' y').run P w=.ok r w :=
 AD H 40 t x y r hr 10000 (by omega) x' y' hx hy
theorem wt {d:Nat} {t:TypeId} {k k':FloatKind} {n m:Nat} {r:Bool} (hr:eqv P h (d+1) t (.float k n) (.float k' m)=some r):False:=by
 simp only[eqv] at hr
 split at hr<;>simp_all
theorem rX {d:Nat} {t:TypeId} {k k':FloatKind} {n m n' m':Nat} {r:Bool} (hr:eqv P h (d+1) t (.complex k n m) (.complex k' n' m')=some r):False:=by
 simp only[eqv] at hr
 split at hr<;>simp_all
theorem xY (t:TypeId) {a b a' b':Value} (ha:VR ρ a a') (hb:VR ρ b b') (hni:∀(k:IntKind) (n:Int) (k':IntKind) (m:Int),a=.int k n->b=.int k' m->False)
  (hns:∀(s u:ByteArray),a=.string s->b=.string u->False) {r:Bool} (hr:eqv P h 40 t a b=some r) :
  binOp .eql t a' b'=(do pure (.bool (<-Op.equal t a' b')):Sem Value)/\binOp .neq t a' b'=(do pure (.bool (!(<-Op.equal t a' b'))):Sem Value):=by
 cases ha<;>cases hb<;>first
  | exact ⟨rfl,rfl⟩
  | (exact (hni _ _ _ _ rfl rfl).elim)
  | (exact (hns _ _ rfl rfl).elim)
  | (exact (wt hr).elim)
  | (exact (rX hr).elim)
theorem wu (H:HR P ρ N h w) {op:BinOp} {t:TypeId} {x y:Operand} {a b a' b' v:Value} (hv:be P h op t x y a b=some v) (ha:VR ρ a a') (hb:VR ρ b b') :
  (do eqGuard op t x y a' b';binOp op t a' b':Sem Value).run P w=.ok v w/\VR ρ v v:=by
 have guard:∀(op:BinOp),gF x y a b=true->(eqGuard op t x y a' b').run P w=.ok () w:=by
  intro op hn
  unfold eqGuard
  cases ha<;>cases hb<;>simp only[gF] at hn<;>cases op<;>simp<;>try (cases hn;done)
  all_goals
   split at hn
   ·simp
   ·simp
   ·cases hn
 unfold be at hv
 split at hv
 ·cases ha;cases hb
  split at hv
  ·rename_i m
   injection hv with hv
   subst hv
   refine ⟨?_,by constructor⟩
   have hneg:¬((m:Int)<0):=by omega
   simp[eqGuard,binOp,Op.shift,hneg]
  ·cases hv
 ·cases ha;cases hb
  split at hv
  ·rename_i m
   injection hv with hv
   subst hv
   refine ⟨?_,by constructor⟩
   have hneg:¬((m:Int)<0):=by omega
   simp[eqGuard,binOp,Op.shift,hneg]
  ·cases hv
 ·rename_i hs hr
  cases ha;cases hb
  split at hv
  ·rename_i hk
   have:=fI hk
   subst this
   have:=wG (P:=P) (ρ:=ρ) (w:=w) (t:=t) hv (fun e=>hs e) (fun e=>hr e)
   refine ⟨?_,this.2⟩
   simp only[Sem.run_bind]
   have hg:∀(op:BinOp) (k k':IntKind) (a b:Int),(eqGuard op t x y (.int k a) (.int k' b)).run P w=.ok () w:=by
    intro op _ _ _ _
    unfold eqGuard
    cases op<;>simp
   rw[hg]
   exact this.1
  ·cases hv
 ·cases ha;cases hb
  have:=wH (P:=P) (ρ:=ρ) (w:=w) hv t
  refine ⟨?_,this.2⟩
  simp only[Sem.run_bind]
  have hg:∀(op:BinOp) (a b:ByteArray),(eqGuard op t x y (.string a) (.string b)).run P w=.ok () w:=by
   intro op _ _
   unfold eqGuard
   cases op<;>simp
  rw[hg]
  exact this.1
 ·rename_i hni hns
  split at hv
  ·rename_i hn
   split at hv
   ·rename_i r hr
    injection hv with hv
    subst hv
    refine ⟨?_,by constructor⟩
    simp only[Sem.run_bind,guard _ hn,Result.andThen_ok]
    rw[(xY t ha hb hni hns hr).1]
    simp[ji H hr ha hb]
   ·cases hv
  ·cases hv
 ·rename_i hni hns
  split at hv
  ·rename_i hn
   split at hv
   ·rename_i r hr
    injection hv with hv
    subst hv
    refine ⟨?_,by constructor⟩
    simp only[Sem.run_bind,guard _ hn,Result.andThen_ok]
    rw[(xY t ha hb hni hns hr).2]
    simp[ji H hr ha hb]
   ·cases hv
  ·cases hv
 ·cases hv
end
section
variable {P:Program} {ρ:Rho} {N:Bs} {h:Hp} {w:World} {a:A} {act:Act}
structure ActR (ρ:Rho) (a:A) (act:Act):Prop where
 get:∀t,VR ρ (a.get t) (act.tmps.getD t undef)
 size:act.tmps.size=a.n
 defers:act.defers=[]
 n:True
theorem ActR.mono {ρ':Rho} (hr:ρ.le ρ') (h:ActR ρ a act):ActR ρ' a act:=⟨fun t=>(h.get t).mono hr,h.size,h.defers,h.n⟩
theorem ActR.ev (h:ActR ρ a act) {x:Operand} {v:Value} (hv:a.ev x=some v):VR ρ v (act.eval x):=by
 cases x with
 | tmp t=>simp only[A.ev,Option.some.injEq] at hv;subst hv;exact h.get t
 | const u =>
   simp only[A.ev] at hv
   split at hv
   ·rename_i hp
    injection hv with hv
    subst hv
    exact oe _ _ hp
   ·cases hv
 | global g=>simp[A.ev] at hv
 | func f=>simp only[A.ev,Option.some.injEq] at hv;subst hv;exact .func .nil .nil
theorem ActR.put (h:ActR ρ a act) {d:Option Nat} {v v':Value} (hv:VR ρ v v') {a1:A} (ha:a.put d v=some a1):ActR ρ a1 (act.put d v'):=by
 cases d with
 | none=>simp only[A.put,Option.some.injEq] at ha;subst ha;exact h
 | some d =>
   simp only[A.put] at ha
   split at ha
   ·rename_i hlt
    injection ha with ha
    subst ha
    have hlt':d<a.n:=by simpa[Nat.blt_eq] using hlt
    refine ⟨fun t => ?_,by simp[Act.put,h.size],h.defers,h.n⟩
    have hset:=Tr.get_put a.tmps d v t
    unfold A.get
    simp only[hset]
    by_cases e:t=d
    ·subst e
     have:t<act.tmps.size:=by rw[h.size];exact hlt'
     simpa[Act.put,Array.getD_eq_getD_getElem?,Array.getElem?_setIfInBounds_self_of_lt this] using hv
    ·rw[if_neg e]
     have:=h.get t
     unfold A.get at this
     simpa[Act.put,Array.getD_eq_getD_getElem?,Array.getElem?_setIfInBounds_ne (Ne.symm e)] using this
   ·cases ha
theorem ActR.evList (h:ActR ρ a act):∀{xs:List Operand} {l:List Value},evList a xs=some l->VRs ρ l (xs.map act.eval)
 | [],l,hl=>by simp only[Go.Ev.evList,Option.some.injEq] at hl;subst hl;exact .nil
 | x::xs,l,hl=>by
   simp only[Go.Ev.evList] at hl
   split at hl
   ·rename_i v r hv hr
    injection hl with hl
    subst hl
    exact .cons (h.ev hv) (h.evList hr)
   ·cases hl
inductive PRs (ρ:Rho):List (Nat×Value)->List (Nat×Value)->Prop
 | nil:PRs ρ [] []
 | cons {i:Nat} {v v':Value} {l l':List (Nat×Value)} (h:VR ρ v v') (k:PRs ρ l l'):PRs ρ ((i,v)::l) ((i,v')::l')
theorem ActR.evPairs (h:ActR ρ a act):∀{xs:List (Nat×Operand)} {l:List (Nat×Value)},evPairs a xs=some l->PRs ρ l (xs.map fun p=>(p.1,act.eval p.2))
 | [],l,hl=>by simp only[Go.Ev.evPairs,Option.some.injEq] at hl;subst hl;exact .nil
 | (i,x)::xs,l,hl=>by
   simp only[Go.Ev.evPairs] at hl
   split at hl
   ·rename_i v r hv hr
    injection hl with hl
    subst hl
    exact .cons (h.ev hv) (h.evPairs hr)
   ·cases hl
theorem nX (off:Nat):∀(vs:List Value) (k:Nat) (cs:Array Value),
  (vs.zipIdx k).foldl (fun cs (x:Value×Nat)=>cs.setIfInBounds (off+x.2) x.1) cs=over cs (off+k) vs
 | [],_,_=>rfl
 | v::vs,k,cs=>by
   simp only[List.zipIdx_cons,List.foldl_cons,over]
   rw[nX off vs (k+1)]
   rfl
theorem ym {c c' vs vs':List Value} (hc:VRs ρ c c') (hv:VRs ρ vs vs') {off:Nat} {c1:List Value} (hs:bC c off vs=some c1) :
  off+vs'.length<=c'.length/\VRs ρ c1 (over c'.toArray off vs').toList:=by
 obtain ⟨h1,h2,h3⟩:=gw _ _ _ _ hs
 have l1:=hc.length
 have l2:=hv.length
 refine ⟨by omega,VRs.of_get (by rw[Array.length_toList,cO];simp;omega) fun k v hk => ?_⟩
 rw[h3] at hk
 have hg:=fQ vs' c'.toArray off (by simp;omega) k
 by_cases hr:off<=k/\k<off+vs.length
 ·rw[if_pos hr] at hk
  rw[if_pos (by omega)] at hg
  obtain ⟨v',e1,e2⟩:=hv.get hk
  exact ⟨v',by simpa[e1] using hg,e2⟩
 ·rw[if_neg hr] at hk
  rw[if_neg (by omega)] at hg
  obtain ⟨v',e1,e2⟩:=hc.get hk
  exact ⟨v',by simpa[e1] using hg,e2⟩
theorem nY {place place':Nat->Option (Nat×Nat)} (hp:∀i p,place i=some p->place' i=some p):∀{ps ps':List (Nat×Value)},PRs ρ ps ps'->∀{c c1:List Value} {c':Array Value},cM place c ps=some c1->VRs ρ c c'.toList ->
  ∃c1',Instr.fill place' c' ps'=some c1'/\VRs ρ c1 c1'.toList:=by
 intro ps ps' hps
 induction hps with
 | nil =>
   intro c c1 c' hf hc
   simp only[cM,Option.some.injEq] at hf
   subst hf
   exact ⟨c',rfl,hc⟩
 | @cons i v v' l l' hv hl ih =>
   intro c c1 c' hf hc
   simp only[cM] at hf
   split at hf
   ·cases hf
   ·rename_i off size hpl
    split at hf
    ·cases hf
    ·rename_i hsz
     split at hf
     ·rename_i c2 hs
      have hcl:=hv.cells.length
      obtain ⟨h1,h2⟩:=ym hc hv.cells hs
      obtain ⟨c1',h3,h4⟩:=ih hf (by simpa using h2)
      refine ⟨c1',?_,h4⟩
      have hsz':v'.cells.size=size:=by
       rw[<-Array.length_toList,hcl]
       exact aF hsz
      have hle:¬(off+v'.cells.size > c'.size):=by
       rw[<-Array.length_toList (xs:=c'),<-Array.length_toList (xs:=v'.cells)]
       omega
      simp only[Instr.fill,hp _ _ hpl]
      rw[if_neg (by simp[hsz'];rw[hsz'] at hle;omega)]
      have hfold:v'.cells.zipIdx.foldl (fun cs (x:Value×Nat)=>cs.setIfInBounds (off+x.2) x.1) c'=over c' off v'.cells.toList:=by
       rw[<-Array.foldl_toList,Array.toList_zipIdx]
       have:=nX off v'.cells.toList 0 c'
       simpa using this
      have hfold':v'.cells.zipIdx.foldl (fun cs (c,j)=>cs.setIfInBounds (off+j) c) c'=over c' off v'.cells.toList:=hfold
      rw[hfold']
      simpa using h3
     ·cases hf
theorem tY (W:WfP P) {fs:Array Field} (hf:∀f∈fs.toList,∃i,P.info? f.type=some i) :
  (fs.mapM fun f=>do pure (f.offset,<-sizeOf f.type):Sem (Array (Nat×Nat))).run P w=.ok (fs.map fun f=>(f.offset,P.cellsOf f.type)) w:=by
 rw[Array.mapM_eq_mapM_toList]
 have aux:∀l:List Field,(∀f∈l,∃i,P.info? f.type=some i)->(l.mapM fun f=>do pure (f.offset,<-sizeOf f.type):Sem (List (Nat×Nat))).run P w=.ok (l.map fun f=>(f.offset,P.cellsOf f.type)) w:=by
  intro l
  induction l with
  | nil=>intro _;simp
  | cons f l ih =>
    intro hl
    obtain ⟨i,hi⟩:=hl f (by simp)
    have h1:(sizeOf f.type).run P w=.ok (P.cellsOf f.type) w:=run_sizeOf w hi
    simp only[List.mapM_cons,Sem.run_bind,h1,Result.andThen_ok,Sem.run_pure]
    rw[ih (fun f hf=>hl f (by simp[hf]))]
    simp
 rw[Sem.run_map,aux _ hf]
 simp only[Result.andThen_ok,List.map_toArray]
 congr 1
 apply Array.ext'
 simp
theorem wC (W:WfP P) {t:TypeId} {ps:List (Nat×Value)} {ps':Array (Nat×Value)} (hps:PRs ρ ps ps'.toList) {v:Value} (hv:d3 P t ps=some v) :
  ∃v',(Instr.build t ps').run P w=.ok v' w/\VR ρ v v':=by
 unfold d3 at hv
 split at hv
 ·cases hv
 ·rename_i z hz
  obtain ⟨hzr,hzv⟩:=eF (w:=w) (ρ:=ρ) hz
  split at hv
  ·rename_i fields hu
   split at hv
   case h_2=>cases hv
   rename_i hall
   rw[List.all_eq_true] at hall
   split at hv
   ·rename_i c hc
    injection hv with hv
    subst hv
    obtain ⟨c',h1,h2⟩:=nY (place':=fun i=>(fields.map fun f=>(f.offset,P.cellsOf f.type))[i]?) (fun i p hp=>by
     split at hp
     ·rename_i f hf
      split at hp
      ·rename_i s hs
       have:=(cP (w:=w) hs).2
       injection hp with hp
       subst hp
       have hf':fields[i]? = some f:=by simpa using hf
       simp[hf',this]
      ·cases hp
     ·cases hp) hps hc hzv.cells
    refine ⟨.agg c',?_,.agg h2⟩
    simp only[Instr.build,Sem.run_bind,hzr,Result.andThen_ok,al hu,tY W (fun f hf=>Option.isSome_iff_exists.1 (hall f hf))]
    rw[h1]
    simp
   ·cases hv
  ·rename_i n e hu
   split at hv
   ·rename_i s hs
    split at hv
    ·rename_i c hc
     injection hv with hv
     subst hv
     obtain ⟨c',h1,h2⟩:=nY (place':=fun i=>some (i*s,s)) (fun i p hp=>hp) hps hc hzv.cells
     refine ⟨.agg c',?_,.agg h2⟩
     simp only[Instr.build,Sem.run_bind,hzr,Result.andThen_ok,al hu,(cP (w:=w) hs).1]
     rw[h1]
     simp
    ·cases hv
   ·cases hv
  ·cases hv
theorem mp (H:HR P ρ N h w) {t:TypeId} {p p':Addr} {i:Img} (hp:AR ρ p p' i) {v:Value} (hv:aV P h t p=some v) :
  ∃v',(loadVar t p').run P w=.ok v' w/\VR ρ v v':=by
 unfold aV at hv
 cases hu:P.underlying t with
 | none=>rw[hu] at hv;cases hv
 | some d =>
   have agg:∀j,P.info? t=some j->(∀w,(isAgg t).run P w=.ok true w)->∀l,h.loads p j.size=some l->v=Value.agg l.toArray->∃v',(loadVar t p').run P w=.ok v' w/\VR ρ v v':=by
    intro j hj ha l hl e
    subst e
    obtain ⟨l',h1,h2,_⟩:=H.loads (.inr ⟨i,hp⟩) hl
    exact ⟨.agg l',by simp[loadVar,ha,cC hj,h1],.agg (by simpa using h2)⟩
   have cell:(∀w,(isAgg t).run P w=.ok false w)->h.load p=some v->∃v',(loadVar t p').run P w=.ok v' w/\VR ρ v v':=by
    intro ha e
    obtain ⟨v',h1,h2⟩:=H.load hp e
    exact ⟨v',by simp only[loadVar,Sem.run_bind,ha,Result.andThen_ok,Bool.false_eq_true,if_false,jI h1],h2⟩
   rw[hu] at hv
   cases d<;>simp only[] at hv<;>first
    | exact cell (fun w=>by simp[isAgg,al hu]) hv
    | (split at hv
       ·rename_i j hj
        split at hv
        ·rename_i l hl
         injection hv with hv
         exact agg j hj (fun w=>by simp[isAgg,al hu]) l hl hv.symm
        ·cases hv
       ·cases hv)
end
section
variable {P:Program} {ρ:Rho} {N:Bs} {h:Hp} {w:World} {a:A} {act:Act}
theorem fR {x x':Value} (hx:VR ρ x x') {n:Nat} (hn:gG x=some n):∃k,x'=.int k n:=by
 unfold gG at hn
 split at hn
 ·injection hn with hn
  subst hn
  cases hx
  exact ⟨_,rfl⟩
 ·cases hn
inductive OVR (ρ:Rho):Option Value->Option Value->Prop
 | none:OVR ρ none none
 | some {v v':Value} (h:VR ρ v v'):OVR ρ (some v) (some v')
theorem dT {v v':Value} (hv:VR ρ v v') {d top n:Nat} (hb:ca (some v) d top=some n) (top':Nat) (ht:top<=top') (code:BoundsCode) :
  (Instr.sliceBound v' top' code).run P w=.ok n w/\n<=top:=by
 unfold ca at hb
 split at hb
 ·rename_i e;cases e
 ·rename_i k m e
  injection e with e
  subst e
  cases hv
  split at hb
  ·rename_i hle
   injection hb with hb
   subst hb
   have:m<=top:=by simpa using hle
   refine ⟨?_,this⟩
   have hc:(0:Int)<=(m:Int)/\(m:Int)<=(top':Int):=by omega
   simp only[Instr.sliceBound,asIntOf,Sem.run_bind,Sem.run_pure,Result.andThen_ok,Sem.run_ite]
   rw[if_pos (by exact hc)]
   simp
  ·cases hb
 ·cases hb
theorem eW (s:ByteArray):s.size=s.data.toList.length:=by rw[Array.length_toList];rfl
theorem nZ (s:ByteArray) (l hh:Nat):s.extract l hh=⟨((s.data.toList.take hh).drop l).toArray⟩:=by
 rw[ByteArray.ext_iff,ByteArray.data_extract]
 apply Array.ext'
 rw[Array.toList_extract,List.extract_eq_take_drop]
 simp[List.drop_take]
theorem j4 {isS:Bool} {len cap cap':Nat} {lo hi lo' hi':Option Value} (hlo:OVR ρ lo lo') (hhi:OVR ρ hi hi')
  (hc:cap<=cap') (hlen:len<=cap) {hh l:Nat} (h1:ca hi len cap=some hh) (h2:ca lo 0 hh=some l) :
  (Instr.sliceBounds isS len cap' lo' hi' none).run P w=.ok (l,hh,cap') w/\l<=hh/\hh<=cap:=by
 cases hhi with
 | none =>
   simp only[ca,Option.some.injEq] at h1
   subst h1
   cases hlo with
   | none =>
     simp only[ca,Option.some.injEq] at h2
     subst h2
     exact ⟨by simp[Instr.sliceBounds],by omega,hlen⟩
   | some hl =>
     have r:=dT (P:=P) (w:=w) hl h2 len (lRf _) .sliceB
     exact ⟨by simp[Instr.sliceBounds,r.1],r.2,hlen⟩
 | some hhv =>
   have q:=fun code=>dT (P:=P) (w:=w) hhv h1 cap' hc code
   cases hlo with
   | none =>
     simp only[ca,Option.some.injEq] at h2
     subst h2
     exact ⟨by simp[Instr.sliceBounds,(q _).1],by omega,(q .sliceB).2⟩
   | some hl =>
     have r:=dT (P:=P) (w:=w) hl h2 hh (lRf _) .sliceB
     exact ⟨by simp[Instr.sliceBounds,(q _).1,r.1],r.2,(q .sliceB).2⟩
theorem AR.add_zero {p p':Addr} {i:Img} (hp:AR ρ p p' i):AR ρ (p.add 0) p' i:=by simpa[Addr.add] using hp
theorem tZ {p p':Addr} {i:Img} (hp:AR ρ p p' i) {c c' l hh sz:Nat} (hc:Ce i p.off c c') (h1:l<=hh) (h2:hh<=c) (hz:c'≠c->i.z=sz) :
  VR ρ (.slice (some (p.add (l*sz))) (hh - l) (c - l)) (.slice (if c'=l then some p' else some (p'.add (l*sz))) (hh - l) (c' - l)):=by
 by_cases hl:c'=l
 ·have hcc:c<=c':=by rcases hc with h|h<;>omega
  have e1:hh - l=0:=by omega
  have e2:c - l=0:=by omega
  have e3:c' - l=0:=by omega
  rw[if_pos hl,e1,e2,e3]
  exact .slZero _ _ (i:=i) (show ρ (Addr.add p _).block=some i by rw[lE];exact hp.2.1)
 ·rw[if_neg hl]
  refine .sl (hp.add _) ?_
  rcases hc with rfl|⟨he,hcc,hm⟩
  ·exact .inl rfl
  ·by_cases hcc':c'=c
   ·exact .inl (by rw[hcc'])
   ·have hz':=hz hcc'
    subst hz'
    refine .inr ⟨he,by omega,?_⟩
    rw[mT]
    have:l*i.z+(c' - l)*i.z=c'*i.z:=by rw[<-Nat.add_mul];congr 1;omega
    omega
theorem wD (H:HR P ρ N h w) {t:TypeId} {x x':Value} {lo hi mx lo' hi' mx':Option Value} (hx:VR ρ x x')
  (hlo:OVR ρ lo lo') (hhi:OVR ρ hi hi') (hmx:OVR ρ mx mx') {v:Value} (hv:dn P h t x lo hi mx=some v) :
  ∃v',(Instr.sliceAt t x' lo' hi' mx').run P w=.ok v' w/\VR ρ v v':=by
 unfold dn at hv
 split at hv
 ·
   rename_i s hu
   cases hx
   split at hv
   ·cases hv
   ·cases hmx
    split at hv
    ·rename_i hh h1
     split at hv
     ·rename_i l h2
      injection hv with hv
      subst hv
      obtain ⟨hb,_,_⟩:=j4 (P:=P) (w:=w) (isS:=false) (cap':=s.data.toList.length) hlo hhi (lRf _) (lRf _) h1 h2
      refine ⟨.string (s.extract l hh),?_,by rw[nZ];exact .string _⟩
      rw[<-eW] at hb
      simp[Instr.sliceAt,al hu,Instr.slice,hb]
     ·cases hv
    ·cases hv
 ·
   rename_i e b len cap hu
   split at hv
   ·cases hv
   ·rename_i sz hsz
    obtain ⟨hszr,hszc⟩:=cP (w:=w) hsz
    simp only[] at hv
    split at hv
    ·cases hv
    ·cases hv
    ·rename_i hok hle0
     have hle:len<=cap:=by simpa using hle0
     split at hv
     ·
       rename_i mv
       cases hmx with
       | @some _ mv' hmv =>
       split at hv
       ·rename_i m h0
        split at hv
        ·cases hv
        ·rename_i hiv
         cases hhi with
         | @some _ hv' hhv =>
         split at hv
         ·rename_i hh h1
          split at hv
          ·rename_i l h2
           injection hv with hv
           subst hv
           have base:∀b' c',x'=.slice b' len c'->cap<=c' ->
             VR ρ (.slice (b.map (·.add (l*sz))) (hh - l) (m - l)) (.slice (if m=l then b' else b'.map (·.add (l*sz))) (hh - l) (m - l)) ->
             ∃v',(Instr.sliceAt t x' lo' (some hv') (some mv')).run P w=.ok v' w/\VR ρ (.slice (b.map (·.add (l*sz))) (hh - l) (m - l)) v':=by
            intro b' c' ex hcc hvr
            subst ex
            refine ⟨_,?_,hvr⟩
            have r0:=dT (P:=P) (w:=w) hmv h0 c' hcc .slice3Acap
            have r1:=dT (P:=P) (w:=w) hhv h1 m (lRf _) .slice3B
            cases hlo with
            | none =>
              simp only[ca,Option.some.injEq] at h2
              subst h2
              simp[Instr.sliceAt,al hu,Instr.slice,Instr.sliceBounds,r0.1,r1.1,hszr]
            | some hlv =>
              have r2:=dT (P:=P) (w:=w) hlv h2 hh (lRf _) .slice3C
              simp[Instr.sliceAt,al hu,Instr.slice,Instr.sliceBounds,r0.1,r1.1,r2.1,hszr]
           have hm1:m<=cap:=(dT (P:=P) (w:=w) hmv h0 cap (lRf _) .sliceB).2
           have hh1:hh<=m:=(dT (P:=P) (w:=w) hhv h1 m (lRf _) .sliceB).2
           have hl1:l<=hh:=by
            cases hlo with
            | none=>simp only[ca,Option.some.injEq] at h2;omega
            | some hlv =>
              exact (dT (P:=P) (w:=w) hlv h2 hh (lRf _) .sliceB).2
           cases hx with
           | slNil =>
             refine base none 0 rfl (lRf _) ?_
             have e1:hh - l=0:=by omega
             have e2:m - l=0:=by omega
             rw[e1,e2]
             simpa using VR.slNil
           | sl hp hc =>
             refine base (some _) _ rfl (by rcases hc with h|h<;>omega) ?_
             have:=tZ (c:=m) (c':=m) (l:=l) (hh:=hh) (sz:=sz) hp (.inl rfl) hl1 hh1 (fun e=>absurd rfl e)
             simpa using this
           | slZero p p' hz =>
             refine base (some _) _ rfl (lRf _) ?_
             have e1:hh - l=0:=by omega
             have e2:m - l=0:=by omega
             have e3:m=l:=by omega
             rw[e1,e2,if_pos e3]
             exact .slZero _ _ (show ρ (Addr.add p _).block=some _ by rw[lE];exact hz)
          ·cases hv
         ·cases hv
       ·cases hv
     ·cases hmx
      split at hv
      ·rename_i hh h1
       split at hv
       ·rename_i l h2
        injection hv with hv
        subst hv
        have base:∀b' c',x'=.slice b' len c'->cap<=c'->(l<=hh->hh<=cap ->
          VR ρ (.slice (b.map (·.add (l*sz))) (hh - l) (cap - l)) (.slice (if c'=l then b' else b'.map (·.add (l*sz))) (hh - l) (c' - l))) ->
          ∃v',(Instr.sliceAt t x' lo' hi' none).run P w=.ok v' w/\VR ρ (.slice (b.map (·.add (l*sz))) (hh - l) (cap - l)) v':=by
         intro b' c' ex hcc hvr
         subst ex
         obtain ⟨hb,g1,g2⟩:=j4 (P:=P) (w:=w) (isS:=true) (cap':=c') hlo hhi hcc hle h1 h2
         exact ⟨_,by simp[Instr.sliceAt,al hu,Instr.slice,hb,hszr],hvr g1 g2⟩
        cases hx with
        | slNil =>
          refine base none 0 rfl (lRf _) (fun g1 g2 => ?_)
          have e1:hh - l=0:=by omega
          have e2:0 - l=0:=by omega
          rw[e1,e2]
          simpa using VR.slNil
        | @sl p p' i n c c' hp hc =>
          refine base (some _) _ rfl (by rcases hc with h|h<;>omega) (fun g1 g2 => ?_)
          refine tZ hp hc g1 g2 (fun hne => ?_)
          rcases hc with h|⟨hex,_,_⟩
          ·exact absurd h hne
          ·simp only[] at hok
           split at hok
           ·rename_i hb
            have h2:=hp.2.1
            rw[H.rid _ (by simpa using hb)] at h2
            injection h2 with h2
            rw[<-h2] at hex
            cases hex
           split at hok
           ·rename_i r hsp hr
            obtain ⟨arr,e0,fr,hw,hR,_⟩:=H.row hr hp.2.1
            split at hok
            ·split at hok
             ·rename_i z0 hz0
              have h5:=(cP (w:=w) hz0).2
              have h6:=hR.2.2.2.2.2.2 hex
              have h7:z0=sz:=aF (by simpa using hok)
              omega
             ·cases hok
            ·rename_i hgr
             have:=(hR.2.2.2.2.2.1 hgr).1
             rw[this] at hex
             cases hex
           ·cases hok
        | slZero p p' hz =>
          refine base (some _) _ rfl (lRf _) (fun g1 g2 => ?_)
          have e1:hh - l=0:=by omega
          have e2:0 - l=0:=by omega
          have e3:0=l:=by omega
          rw[e1,e2,if_pos e3]
          exact .slZero _ _ (show ρ (Addr.add p _).block=some _ by rw[lE];exact hz)
       ·cases hv
      ·cases hv
 ·
   rename_i n e p hu
   cases hx with
   | ptr hp =>
     split at hv
     ·rename_i sz r hsz hsp hr
      obtain ⟨hszr,_⟩:=cP (w:=w) hsz
      split at hv
      ·rename_i hgr
       cases hmx
       split at hv
       ·rename_i hh h1
        split at hv
        ·rename_i l h2
         injection hv with hv
         subst hv
         obtain ⟨hb,g1,g2⟩:=j4 (P:=P) (w:=w) (isS:=false) (cap':=n) hlo hhi (lRf _) (lRf _) h1 h2
         have:=tZ (c:=n) (c':=n) (l:=l) (hh:=hh) (sz:=sz) hp (.inl rfl) g1 g2 (fun e=>absurd rfl e)
         refine ⟨_,?_,this⟩
         simp only[Instr.sliceAt,Sem.run_bind,al hu,Result.andThen_ok,Instr.sureAddr,Sem.run_pure,hb,hszr]
         by_cases hnl:n=l<;>simp[hnl]
        ·cases hv
       ·cases hv
      ·cases hv
     ·cases hv
 ·cases hv
theorem pv (H:HR P ρ N h w) {t:TypeId} {x x':Value} {f:Nat} (hx:VR ρ x x') {v:Value} (hv:aI P t x f=some v) :
  ∃v',(Instr.fieldAt t x' f).run P w=.ok v' w/\VR ρ v v':=by
 unfold aI at hv
 split at hv
 ·rename_i fields p hu
  cases hx with
  | ptr hp =>
    split at hv
    ·rename_i fd hf hsp
     split at hv
     ·rename_i s hs
      injection hv with hv
      subst hv
      obtain ⟨hsr,_⟩:=cP (w:=w) hs
      have hf':fields[f]? = some fd:=by simpa using hf
      refine ⟨_,?_,.ptr (hp.add fd.offset)⟩
      simp[Instr.fieldAt,al hu,hf',Instr.sureAddr,fieldPlace,hsr]
     ·cases hv
    ·cases hv
 ·cases hv
theorem pw (H:HR P ρ N h w) {t:TypeId} {x x' y y':Value} (hx:VR ρ x x') (hy:VR ρ y y') {v:Value} (hv:ap P t x y=some v) :
  ∃v',(Instr.indexAt t x' y').run P w=.ok v' w/\VR ρ v v':=by
 unfold ap at hv
 split at hv
 ·rename_i e p len c k hu hk
  obtain ⟨kk,rfl⟩:=fR hy hk
  have one:∀p' c',x'=.slice (some p') len c'->k<len->∀s,aA P e=some s->∀i,AR ρ p p' i->∃v',(Instr.indexAt t x' (.int kk k)).run P w=.ok v' w/\VR ρ (.pointer (some (p.add (k*s)))) v':=by
   intro p' c' ex hlt s hs i hp
   subst ex
   obtain ⟨hsr,_⟩:=cP (w:=w) hs
   refine ⟨_,?_,.ptr (hp.add (k*s))⟩
   have hc:(0:Int)<=(k:Int)/\(k:Int)<(len:Int):=by omega
   simp[Instr.indexAt,asIntOf,al hu,hsr,hlt]
  split at hv
  ·rename_i s hlt hs hsp
   injection hv with hv
   subst hv
   have hlt':k<len:=by simpa[Nat.blt_eq] using hlt
   cases hx with
   | sl hp hc=>exact one _ _ rfl hlt' s hs _ hp
   | slZero=>omega
  ·cases hv
 ·rename_i len e p k hu hk
  obtain ⟨kk,rfl⟩:=fR hy hk
  split at hv
  ·rename_i s hlt hs hsp
   injection hv with hv
   subst hv
   have hlt':k<len:=by simpa[Nat.blt_eq] using hlt
   cases hx with
   | ptr hp =>
     obtain ⟨hsr,_⟩:=cP (w:=w) hs
     refine ⟨_,?_,.ptr (hp.add (k*s))⟩
     simp[Instr.indexAt,asIntOf,al hu,hsr,hlt',Instr.sureAddr]
  ·cases hv
 ·cases hv
theorem wE {t:TypeId} {x x' y y':Value} (hx:VR ρ x x') (hy:VR ρ y y') {v:Value} (hv:jV P t x y=some v) :
  ∃v',(Instr.index t x' y').run P w=.ok v' w/\VR ρ v v':=by
 unfold jV at hv
 split at hv
 ·rename_i len e cs k hu hk
  obtain ⟨kk,rfl⟩:=fR hy hk
  split at hv
  ·rename_i s hlt hs
   have hlt':k<len:=by simpa[Nat.blt_eq] using hlt
   cases hx with
   | agg hc =>
     obtain ⟨hsr,_⟩:=cP (w:=w) hs
     obtain ⟨v',h1,h2⟩:=dJ (w:=w) hv hc
     refine ⟨v',?_,h2⟩
     simp[Instr.index,asIntOf,al hu,hsr,hlt',h1]
  ·cases hv
 ·rename_i s k hu hk
  obtain ⟨kk,rfl⟩:=fR hy hk
  split at hv
  ·rename_i b hb
   injection hv with hv
   subst hv
   cases hx
   refine ⟨_,?_,.int _ _⟩
   have hb':s[k]? = some b:=by
    have hb2:s.data[k]? = some b:=by simpa using hb
    rw[<-hb2]
    rfl
   have h0:(0:Int)<=(k:Int):=by omega
   simp[Instr.index,asIntOf,al hu,hb']
  ·cases hv
 ·cases hv
end
section
variable {P:Program} {ρ:Rho} {N:Bs} {h:Hp} {w:World} {a:A} {act:Act}
theorem eE (W:WfP P):∀(d:Nat) (t:TypeId) (v v':Value),cH P d t v=true->VR ρ v v'->∀D,d<=D->∀em,(Instr.checkKey em D t v').run P w=.ok () w:=by
 intro d
 induction d with
 | zero=>intro t v v' hk;simp[cH] at hk
 | succ d ih =>
   intro t v v' hk hv D hD em
   obtain ⟨D,rfl⟩:∃k,D=k+1:=⟨D - 1,by omega⟩
   cases hu:P.underlying t with
   | none=>simp only[cH,hu] at hk;cases hk
   | some q =>
   cases q
   case interface ms =>
    simp only[cH,hu] at hk
    cases hv<;>simp only[] at hk<;>first
     | (cases hk;done)
     | (simp[Instr.checkKey,al hu];done)
     | skip
    rename_i hx
    split at hk
    ·rename_i i hi
     split at hk
     ·rename_i hc
      have:=ih _ _ _ hk hx D (by omega) em
      simp[Instr.checkKey,al hu,dI hi,hc,this]
     ·cases hk
    ·cases hk
   case array n e =>
    by_cases hn:n=2
    ·subst hn
     simp only[cH,hu] at hk
     cases hv<;>simp only[] at hk<;>first
      | (cases hk;done)
      | skip
     rename_i cs cs' hc
     split at hk
     ·rename_i i hi
      split at hk
      ·rename_i p q e1 e2
       rw[Bool.and_eq_true] at hk
       obtain ⟨p',f1,g1⟩:=dJ (w:=w) e1 hc
       obtain ⟨q',f2,g2⟩:=dJ (w:=w) e2 hc
       have k1:=ih _ _ _ hk.1 g1 D (by omega) em
       have k2:=ih _ _ _ hk.2 g2 D (by omega) em
       have hz:(sizeOf e).run P w=.ok i.size w:=by simp[sizeOf,dI hi]
       rw[Nat.zero_mul] at f1
       rw[Nat.one_mul] at f2
       simp[Instr.checkKey,al hu,Std.Legacy.Range.forIn_eq_forIn_range',Std.Legacy.Range.size,List.range',hz,f1,f2,k1,k2]
      ·cases hk
     ·cases hk
    ·exfalso
     revert hk
     unfold cH
     rw[hu]
     cases v<;>simp[hn]
   case struct fields =>
    simp only[cH,hu] at hk
    cases hv<;>simp only[] at hk<;>first
     | (cases hk;done)
     | skip
    rename_i cs cs' hc
    simp only[Instr.checkKey,Sem.run_bind,al hu,Result.andThen_ok]
    rw[<-Array.forIn_toList]
    have aux:∀fs:List Field,(fs.all fun f=>match f.name == "_" with
      | true=>true
      | false=>match part P f.type cs.toList f.offset with
        | some p=>cH P d f.type p
        | none=>false)=true ->
      (forIn fs PUnit.unit fun f r=>(do
       if f.name ≠ "_" then do
        Instr.checkKey em D f.type (<-Go.part f.type cs' f.offset)
        pure PUnit.unit
        pure (ForInStep.yield PUnit.unit)
       else do
        pure PUnit.unit
        pure (ForInStep.yield PUnit.unit):Sem (ForInStep PUnit))).run P w=.ok PUnit.unit w:=by
     intro fs
     induction fs with
     | nil=>intro _;simp
     | cons f fs ihf =>
       intro hall
       simp only[List.all_cons,Bool.and_eq_true] at hall
       obtain ⟨h1,h2⟩:=hall
       simp only[List.forIn_cons]
       by_cases hn:f.name = "_"
       ·simp only[hn,ne_eq,not_true,if_false,Sem.run_bind,Sem.run_pure,Result.andThen_ok]
        exact ihf h2
       ·have hb:(f.name == "_")=false:=by simpa using hn
        rw[hb] at h1
        simp only[] at h1
        split at h1
        ·rename_i p hp
         obtain ⟨p',e1,e2⟩:=dJ (w:=w) hp hc
         have:=ih _ _ _ h1 e2 D (by omega) em
         simp only[ne_eq,hn,not_false_eq_true,if_true,Sem.run_bind,e1,Result.andThen_ok,this,Sem.run_pure]
         exact ihf h2
        ·cases h1
    have:=aux fields.toList hk
    simp at this ⊢
    rw[this]
    rfl
   all_goals simp[Instr.checkKey,al hu]
end
section
variable {P:Program} {ρ:Rho} {N:Bs} {h:Hp} {w:World} {a:A} {act:Act}
theorem MRs.length:∀{l l':List MapEntry},MRs ρ l l'->l'.length=l.length
 | _,_,.nil=>rfl
 | _,_,.cons _ _ _ k=>by simp[MRs.length k]
theorem MRs.get:∀{l l':List MapEntry},MRs ρ l l'->∀{k:Nat} {e:MapEntry},l[k]? = some e->∃e',l'[k]? = some e'/\VR ρ e.key e'.key/\VR ρ e.val e'.val/\e'.born=e.born
 | _,_,.nil,k,e,h=>by simp at h
 | _,_,.cons (e':=e') hk hv hb _,0,e,h=>by simp at h;subst h;exact ⟨e',rfl,hk,hv,hb⟩
 | _,_,.cons _ _ _ r,k+1,e,h=>by simp at h;simpa using MRs.get r h
theorem mq {t:TypeId} {kind:TypeDesc} (hu:P.underlying t=some kind) {k k' y y':Value} (hk:VR ρ k k') (hy:VR ρ y y') {r b:Bool} {d:Nat} (hr:eqv P h (d+1) t k y=some r) (hb:Instr.sameNow kind k' y'=some b):b=r:=by
 unfold Instr.sameNow at hb
 split at hb
 ·cases hk;cases hy
  simp only[eqv,hu] at hr
  split at hr
  ·injection hr with hr
   split at hb
   ·injection hb with hb
    rw[<-hb,<-hr,da]
   ·cases hb
  ·cases hr
 ·cases hk;cases hy
  simp only[eqv,hu] at hr
  injection hr with hr
  injection hb with hb
  rw[<-hb,<-hr,ch,beq_toListBytes,ByteArray.toList_eq,ByteArray.toList_eq]
 ·cases hk;cases hy
  simp only[eqv,hu] at hr
  injection hr with hr
  injection hb with hb
  rw[<-hb,<-hr]
 ·cases hb
inductive FR (ρ:Rho):Option (Nat×Value)->Option (Nat×Value)->Prop
 | none:FR ρ none none
 | some {i:Nat} {v v':Value} (h:VR ρ v v'):FR ρ (some (i,v)) (some (i,v'))
theorem yn (H:HR P ρ N h w) {t:TypeId} {kind:TypeDesc} (hu:P.underlying t=some kind) {k k':Value} (hk:VR ρ k k'):∀{es es':List MapEntry},MRs ρ es es'->∀{i:Nat} {res:Option (Nat×Value)},fA P h t k es i=some res ->
  ∃res',(Instr.findNow kind k' es' i=none\/Instr.findNow kind k' es' i=some res')/\(Instr.findAsking t k' es' i).run P w=.ok res' w/\FR ρ res res':=by
 intro es es' hes
 induction hes with
 | nil =>
   intro i res hf
   simp only[fA,Option.some.injEq] at hf
   subst hf
   exact ⟨none,.inr rfl,by simp[Instr.findAsking],.none⟩
 | @cons e e' l l' hke hve hbe hl ih =>
   intro i res hf
   simp only[fA] at hf
   split at hf
   ·rename_i he
    injection hf with hf
    subst hf
    refine ⟨some (i,e'.val),?_,?_,.some hve⟩
    ·simp only[Instr.findNow]
     cases hs:Instr.sameNow kind k' e'.key with
     | none=>exact .inl rfl
     | some b =>
       have:=mq hu hk hke he hs
       subst this
       exact .inr rfl
    ·simp[Instr.findAsking,ji H he hk hke]
   ·rename_i he
    obtain ⟨res',h1,h2,h3⟩:=ih hf
    refine ⟨res',?_,?_,h3⟩
    ·simp only[Instr.findNow]
     cases hs:Instr.sameNow kind k' e'.key with
     | none=>exact .inl rfl
     | some b =>
       have:=mq hu hk hke he hs
       subst this
       exact h1
    ·simp[Instr.findAsking,ji H he hk hke,h2]
   ·cases hf
theorem dj (H:HR P ρ N h w) {t:TypeId} {k k':Value} (hk:VR ρ k k') {es es':List MapEntry} (hes:MRs ρ es es') {res:Option (Nat×Value)} (hf:fA P h t k es 0=some res) {kind:TypeDesc} (hu:P.underlying t=some kind) :
  ∃res',(Instr.findKey t k' es').run P w=.ok res' w/\FR ρ res res':=by
 obtain ⟨res',h1,h2,h3⟩:=yn H hu hk hes hf
 refine ⟨res',?_,h3⟩
 simp only[Instr.findKey,Sem.run_bind,al hu,Result.andThen_ok]
 rcases h1 with h1|h1<;>rw[h1]
 ·exact h2
 ·simp
theorem cu {r:Nat} {es:Array MapEntry} {k:Nat} (hw:w.heap[r]? = some (.map es k)):(getObj r).run P w=.ok (.map es k) w:=by
 simp[getObj,Sem.run,hw]
theorem sg (H:HR P ρ N h w) {x x':Value} (hx:VR ρ x x') {es:List MapEntry} (he:ef h x=some es) :
  (x'=.map none/\es=[])\/∃(r:Nat) (es':Array MapEntry) (k:Nat),x'=.map (some r)/\(getObj r).run P w=.ok (.map es' k) w/\MRs ρ es es'.toList:=by
 unfold ef at he
 split at he
 ·cases hx
  injection he with he
  subst he
  exact .inl ⟨rfl,rfl⟩
 ·rename_i r
  cases hx with
  | map hi =>
    split at he
    ·rename_i es1 k hm
     injection he with he
     subst he
     obtain ⟨es',hw,hR,_⟩:=H.map? hm hi
     exact .inr ⟨_,es',k,rfl,cu hw,hR⟩
    ·cases he
 ·cases he
theorem fE {d:Nat} {t:TypeId} {v:Value} (hk:cH P d t v=true):∃kind,P.underlying t=some kind:=by
 cases d with
 | zero=>simp[cH] at hk
 | succ d =>
   cases hu:P.underlying t with
   | none=>simp[cH,hu] at hk
   | some q=>exact ⟨q,rfl⟩
theorem t6 (W:WfP P) (H:HR P ρ N h w) {t:TypeId} {x x' k k':Value} (hx:VR ρ x x') (hk:VR ρ k k') {ok:Bool} {v:Value} (hv:dR P h t x k ok=some v) :
  ∃v',(Instr.lookup t x' k' ok).run P w=.ok v' w/\VR ρ v v':=by
 unfold dR at hv
 split at hv
 ·rename_i kt et hu
  split at hv
  ·rename_i es hes hko
   obtain ⟨kind,hkd⟩:=fE hko
   have fin:∀(v v':Value) (b:Bool),VR ρ v v'->VR ρ (if ok then .tuple #[v,.bool b] else v) (if ok then .tuple #[v',.bool b] else v'):=by
    intro v v' b hvv
    cases ok
    ·simpa using hvv
    ·simpa using VR.tuple (c:=#[v,.bool b]) (c':=#[v',.bool b]) (.cons hvv (.cons (.bool b) .nil))
   have hck:=fun em=>eE (w:=w) W 40 kt k k' hko hk 10000 (by omega) em
   have main:∀(es':List MapEntry),MRs ρ es es'->∃res',(Instr.findKey kt k' es').run P w=.ok res' w /\
     ((∃j u',res'=some (j,u')/\VR ρ v (if ok then .tuple #[u',.bool true] else u'))\/(res'=none/\∃z,(zeroValue et).run P w=.ok z w/\VR ρ v (if ok then .tuple #[z,.bool false] else z))):=by
    intro es' hR
    split at hv
    ·rename_i j u hf
     injection hv with hv
     subst hv
     obtain ⟨res',h1,h2⟩:=dj H hk hR hf hkd
     cases h2 with
     | some hu2=>exact ⟨_,h1,.inl ⟨_,_,rfl,fin _ _ true hu2⟩⟩
    ·rename_i hf
     obtain ⟨res',h1,h2⟩:=dj H hk hR hf hkd
     split at hv
     ·rename_i z hz
      injection hv with hv
      subst hv
      obtain ⟨hzr,hzv⟩:=eF (w:=w) (ρ:=ρ) hz
      cases h2 with
      | none=>exact ⟨_,h1,.inr ⟨rfl,_,hzr,fin _ _ false hzv⟩⟩
     ·cases hv
    ·cases hv
   rcases sg H hx hes with ⟨rfl,rfl⟩|⟨r,es',kk,rfl,hg,hR⟩
   ·obtain ⟨res',e1,e2⟩:=main [] .nil
    rcases e2 with ⟨j,u',rfl,e2⟩|⟨rfl,z,e3,e2⟩
    ·exact ⟨_,by simp[Instr.lookup,al hu,hck,e1],e2⟩
    ·exact ⟨_,by simp[Instr.lookup,al hu,hck,e1,e3],e2⟩
   ·obtain ⟨res',e1,e2⟩:=main es'.toList hR
    rcases e2 with ⟨j,u',rfl,e2⟩|⟨rfl,z,e3,e2⟩
    ·exact ⟨_,by simp[Instr.lookup,al hu,hck,hg,e1],e2⟩
    ·exact ⟨_,by simp[Instr.lookup,al hu,hck,hg,e1,e3],e2⟩
  ·cases hv
 ·cases hv
theorem oc {l:List String} (h:l≠[]):∃s,Instr.least l=some s:=by
 cases l with
 | nil=>exact absurd rfl h
 | cons x r=>exact ⟨_,rfl⟩
theorem qX (dotted:String->Bool) (g:String->String) (l:List String) (hl:l≠[]) :
  ∃s,(Instr.least (l.filter (not ∘ dotted)) <|> Instr.least ((l.filter dotted).map g))=some s:=by
 cases l with
 | nil=>exact absurd rfl hl
 | cons x r =>
   by_cases hx:dotted x=true
   ·have h1:(x::r).filter dotted≠[]:=by
     rw[List.filter_cons_of_pos hx];simp
    cases hl:Instr.least ((x::r).filter (not ∘ dotted)) with
    | some s=>exact ⟨s,rfl⟩
    | none =>
      obtain ⟨s,hs⟩:=oc (l:=((x::r).filter dotted).map g) (by simpa using h1)
      exact ⟨s,by rw[hs];rfl⟩
   ·have h1:(x::r).filter (not ∘ dotted)≠[]:=by
     rw[List.filter_cons_of_pos (by simpa using hx)];simp
    obtain ⟨s,hs⟩:=oc h1
    exact ⟨s,by rw[hs];rfl⟩
theorem mr (want:Array (String×TypeId)) (got:Array Method) :
  ((want.toList.all fun (n,s)=>got.toList.any fun m=>m.name==n&&Nat.beq m.sig s)=true->Instr.missingMethod want got=none) /\
  ((want.toList.all fun (n,s)=>got.toList.any fun m=>m.name==n&&Nat.beq m.sig s)=false->∃s,Instr.missingMethod want got=some s):=by
 have hany:∀(n:String) (s:TypeId),(got.any fun m=>m.name==n&&m.sig==s)=(got.toList.any fun m=>m.name==n&&Nat.beq m.sig s):=by
  intro n s
  rw[<-Array.any_toList]
  congr 1
  funext m
  congr 1
  rw[Bool.eq_iff_iff]
  simp
 constructor
 ·intro hall
  have:(want.toList.filter fun (x:String×TypeId) => !got.any fun m=>m.name==x.1&&m.sig==x.2)=[]:=by
   rw[List.filter_eq_nil_iff]
   intro x hx
   rw[List.all_eq_true] at hall
   have:=hall x hx
   simp only[hany]
   simpa using this
  simp only[Instr.missingMethod]
  have h2:(want.toList.filter fun x=>match x with
   | (name,sig) => !got.any fun m=>m.name==name&&m.sig==sig)=[]:=this
  rw[h2]
  rfl
 ·intro hall
  have hne:(want.toList.filter fun (x:String×TypeId) => !got.any fun m=>m.name==x.1&&m.sig==x.2)≠[]:=by
   intro e
   rw[List.filter_eq_nil_iff] at e
   have:(want.toList.all fun (n,s)=>got.toList.any fun m=>m.name==n&&Nat.beq m.sig s)=true:=by
    rw[List.all_eq_true]
    intro x hx
    have:=e x hx
    simp only[hany] at this
    simpa using this
   rw[this] at hall
   cases hall
  simp only[Instr.missingMethod]
  generalize hL:(want.toList.filter fun x=>match x with
   | (name,sig) => !got.any fun m=>m.name==name&&m.sig==sig)=L
  have hL':L≠[]:=by rw[<-hL];exact hne
  simp only[List.partition_eq_filter_filter]
  exact qX _ _ _ (by simpa using hL')
end
section
variable {P:Program} {ρ:Rho} {N:Bs} {h:Hp} {w:World} {a:A} {act:Act}
theorem od {x x':Value} (hx:VR ρ x x') {xt t:TypeId} {ok:Bool} {v:Value} (hv:iF P x t ok=some v) :
  ∃v',(Instr.typeAssert x' xt t ok).run P w=.ok v' w/\VR ρ v v':=by
 have fails:∀{z:Value},bE P t=some z->(zeroValue t).run P w=.ok z w/\VR ρ (.tuple #[z,.bool false]) (.tuple #[z,.bool false]):=by
  intro z hz
  obtain ⟨h1,h2⟩:=eF (w:=w) (ρ:=ρ) hz
  exact ⟨h1,.tuple (c:=#[z,.bool false]) (c':=#[z,.bool false]) (.cons h2 (.cons (.bool false) .nil))⟩
 have holds:∀{u u':Value},VR ρ u u'->VR ρ (if ok then .tuple #[u,.bool true] else u) (if ok then .tuple #[u',.bool true] else u'):=by
  intro u u' hu
  cases ok
  ·simpa using hu
  ·simpa using VR.tuple (c:=#[u,.bool true]) (c':=#[u',.bool true]) (.cons hu (.cons (.bool true) .nil))
 unfold iF at hv
 split at hv
 ·rename_i want ti u hu
  have hx0:=hx
  cases hx with
  | @iface _ _ u' hxu =>
  split at hv
  ·rename_i i hi
   split at hv
   ·rename_i hall
    injection hv with hv
    subst hv
    have:=(mr want i.methods).1 hall
    exact ⟨_,by simp[Instr.typeAssert,al hu,dI hi,this],holds hx0⟩
   ·rename_i hall
    split at hv
    ·rename_i z hz
     injection hv with hv
     subst hv
     obtain ⟨s,hs⟩:=(mr want i.methods).2 hall
     exact ⟨_,by simp[Instr.typeAssert,al hu,dI hi,hs,(fails hz).1],(fails hz).2⟩
    ·cases hv
  ·cases hv
 ·rename_i q hu
  cases hx
  split at hv
  ·rename_i z hz
   injection hv with hv
   subst hv
   refine ⟨_,?_,(fails hz).2⟩
   cases q<;>simp[Instr.typeAssert,al hu,(fails hz).1]
  ·cases hv
 ·cases hv
 ·rename_i q ti u hni hu
  cases hx with
  | iface hxu =>
  split at hv
  ·rename_i he
   injection hv with hv
   subst hv
   have:ti=t:=aF he
   subst this
   refine ⟨_,?_,holds hxu⟩
   cases q<;>first|(simp[Instr.typeAssert,al hu];done)|(exact absurd rfl (hni _))|(simp_all;done)
  ·rename_i he
   have hne:ti≠t:=fP he
   split at hv
   ·rename_i z hz
    injection hv with hv
    subst hv
    refine ⟨_,?_,(fails hz).2⟩
    cases q<;>first|(simp[Instr.typeAssert,al hu,hne,(fails hz).1];done)|(exact absurd rfl (hni _))|(simp_all;done)
   ·cases hv
 ·cases hv
theorem mu {b:Nat}:∀{l l':List MapEntry},MRs ρ l l'->∀{k j:Nat},lB b l k=some j ->
  k<=j/\∃e e',l[j - k]? = some e/\l'[j - k]? = some e'/\l'.find? (fun e=>e.born==b)=some e'/\l'.findIdx? (fun e=>e.born==b)=some (j - k)/\VR ρ e.key e'.key/\VR ρ e.val e'.val/\e'.born=b/\e.born=b:=by
 intro l l' hl
 induction hl with
 | nil=>intro k j hb;simp[lB] at hb
 | @cons e e' l l' hk hv he hl ih =>
   intro k j hb
   simp only[lB] at hb
   split at hb
   ·rename_i hbe
    injection hb with hb
    subst hb
    have:=aF hbe
    have hbb:(e'.born==b)=true:=by simp[he,this]
    exact ⟨lRf _,e,e',by simp,by simp,by simp[List.find?,hbb],by simp[List.findIdx?_cons,hbb],hk,hv,by omega,this⟩
   ·rename_i hbe
    have hne:=fP hbe
    obtain ⟨h1,e1,e1',h2,h3,h4,h5,h6⟩:=ih hb
    have hbb:(e'.born==b)=false:=by simp[he,hne]
    have hj:j - k=(j - (k+1))+1:=by omega
    refine ⟨by omega,e1,e1',by rw[hj];simpa using h2,by rw[hj];simpa using h3,by simpa[List.find?,hbb] using h4,by simp[List.findIdx?_cons,hbb,h5];omega,h6⟩
theorem wF (H:HR P ρ N h w) {x x':Value} (hx:VR ρ x x') {v:Value} (hv:tL h x=some v):∃v',(Instr.entry x').run P w=.ok v' w/\VR ρ v v':=by
 unfold tL at hv
 split at hv
 ·rename_i p
  cases hx with
  | @ptr _ p' i hp =>
  split at hv
  ·rename_i m since seen st hoff hobj
   obtain ⟨o',ho,hR⟩:=H.obj p.block _ i hobj (fun r hr=>by rw[hobj] at hr;cases hr) hp.2.1
   cases o'<;>simp only[ObjR] at hR
   rename_i m' since' seen' st'
   obtain ⟨hm,rfl,hseen,rfl,hs0⟩:=hR
   cases m' with
   | none=>simp at hm
   | some m' =>
   obtain ⟨j,hj,rfl⟩:=hm
   split at hv
   ·rename_i b es clock hb hmap
    obtain ⟨es',hw,hMR,_⟩:=H.map? hmap hj
    split at hv
    ·rename_i k hc hk
     obtain ⟨h0,e,e',g1,g2,g3,g4,g5,g6,g7,g8⟩:=mu hMR hk
     rw[Nat.sub_zero] at g1
     rw[g1] at hv
     injection hv with hv
     subst hv
     have hclock:=aF hc
     have hback:seen'.back? = some b:=by rw[<-hseen] at hb;simpa using hb
     have hfind:es'.find? (fun e=>e.born==b)=some e':=by rw[<-Array.find?_toList];exact g3
     refine ⟨_,?_,.tuple (c:=#[e.key,e.val]) (c':=#[e'.key,e'.val]) (.cons g5 (.cons g6 .nil))⟩
     rw[hp.fn]
     have hz:i.s+p.off=0:=by omega
     rw[hz]
     simp[Instr.entry,getObj,Sem.run,ho,hback,hw,hclock,hfind]
    ·cases hv
   ·cases hv
  ·cases hv
 ·cases hv
theorem j5 (big:Bool):∀(l:List Value) (x v:Value) (x':Value) (l':List Value),d6 big x l=some v->VR ρ x x'->VRs ρ l l' ->
  (l'.foldlM (if big then Builtin.max2 else Builtin.min2) x').run P w=.ok v w/\VR ρ v v\/(l=[]/\v=x)
 | [],x,v,x',l',hv,hx,hl=>by
   cases hl
   simp only[d6,Option.some.injEq] at hv
   exact .inr ⟨rfl,hv.symm⟩
 | y::l,x,v,x',l',hv,hx,hl=>by
   cases hl with
   | cons hy hl =>
   unfold d6 at hv
   split at hv
   ·rename_i e;cases e
   ·rename_i k n k2 m r e
    injection e with e1 e2
    subst e1
    subst e2
    cases hx
    cases hy
    have step:((if big then Builtin.max2 else Builtin.min2) (.int k n) (.int k2 m)).run P w=.ok (.int k (mm big n m)) w:=by
     cases big
     ·simp only[mm,dH,Bool.false_eq_true,if_false,Builtin.min2,Sem.run_pure]
      by_cases hlt:m<n<;>simp[hlt]
     ·simp only[mm,dH,if_true,Builtin.max2,Sem.run_pure]
      by_cases hlt:n<m
      ·simp[hlt]
      ·simp[hlt]
    rcases j5 big l _ v _ _ hv (.int k _) hl with h1|⟨rfl,rfl⟩
    ·left
     refine ⟨?_,h1.2⟩
     rw[List.foldlM_cons,Sem.run_bind,step]
     exact h1.1
    ·cases hl
     left
     refine ⟨?_,.int _ _⟩
     rw[List.foldlM_cons,Sem.run_bind,step]
     simp
   ·cases hv
theorem VRs.cons_inv {x:Value} {l m:List Value} (h:VRs ρ (x::l) m):∃x' l',m=x'::l'/\VR ρ x x'/\VRs ρ l l':=by
 cases h with
 | cons h k=>exact ⟨_,_,rfl,h,k⟩
theorem pG {x x':Value} (hx:VR ρ x x') {n:Nat} (hn:d7 x=some n):(Builtin.lenOf x').run P w=.ok n w:=by
 unfold d7 at hn
 split at hn
 ·injection hn with hn
  subst hn
  cases hx<;>simp[Builtin.lenOf]
 ·cases hx
  injection hn with hn
  subst hn
  simp only[Builtin.lenOf,Sem.run_pure,eW]
 ·cases hn
theorem AV (H:HR P ρ N h w) {ts:Array TypeId} {l:List Value} {l':Array Value} (hl:VRs ρ l l'.toList) {ty:TypeId} {v:Value} (hv:iE P h ts.toList l=some v) :
  ∃v',(Builtin.len_ ts ty l').run P w=.ok v' w/\VR ρ v v':=by
 unfold iE at hv
 split at hv
 ·rename_i t tr x xr ht
  have h0:ts[0]? = some t:=by rw[<-Array.getElem?_toList,ht];rfl
  obtain ⟨x',l2,hl3,hxv,hl2⟩:=hl.cons_inv
  have h1:l'[0]? = some x':=by rw[<-Array.getElem?_toList,hl3];rfl
  split at hv
  ·rename_i s hu
   cases hxv
   injection hv with hv
   subst hv
   exact ⟨.int .i64 s.data.toList.length,by rw[<-eW];simp[Builtin.len_,h0,h1,al hu,goInt],.int _ _⟩
  ·rename_i n e hu
   injection hv with hv
   subst hv
   (refine ⟨_,?_,.int _ _⟩;simp[Builtin.len_,h0,h1,al hu,goInt])
  ·rename_i e b n c hu
   injection hv with hv
   subst hv
   cases hxv<;>(refine ⟨_,?_,.int _ _⟩;simp[Builtin.len_,h0,h1,al hu,goInt])
  ·rename_i k e hu
   cases hxv
   injection hv with hv
   subst hv
   (refine ⟨_,?_,.int _ _⟩;simp[Builtin.len_,h0,h1,al hu,goInt])
  ·rename_i k e r hu
   cases hxv with
   | map hi =>
   split at hv
   ·rename_i es kk hm
    injection hv with hv
    subst hv
    obtain ⟨es',hw,hMR,_⟩:=H.map? hm hi
    have:es'.size=es.length:=by rw[<-Array.length_toList];exact hMR.length
    refine ⟨_,?_,.int _ _⟩
    simp[Builtin.len_,h0,h1,al hu,cu hw,this,goInt]
   ·cases hv
  ·cases hv
 ·cases hv
theorem AW (H:HR P ρ N h w) {ts:Array TypeId} {l:List Value} {l':Array Value} (hl:VRs ρ l l'.toList) {ty:TypeId} {v:Value} (hv:cap' P h ts.toList l=some v) :
  ∃v',(Builtin.cap_ ts ty l').run P w=.ok v' w/\VR ρ v v':=by
 unfold cap' at hv
 split at hv
 ·rename_i t tr x xr ht
  have h0:ts[0]? = some t:=by rw[<-Array.getElem?_toList,ht];rfl
  obtain ⟨x',l2,hl3,hxv,hl2⟩:=hl.cons_inv
  have h1:l'[0]? = some x':=by rw[<-Array.getElem?_toList,hl3];rfl
  split at hv
  ·rename_i e m n hu
   injection hv with hv
   subst hv
   cases hxv
   (refine ⟨_,?_,.int _ _⟩;simp[Builtin.cap_,h0,h1,al hu,goInt])
  ·rename_i e p m n hu
   split at hv
   ·rename_i r hr
    split at hv
    ·rename_i hg
     injection hv with hv
     subst hv
     cases hxv with
     | sl hp hc =>
       obtain ⟨arr,e0,fr,hw,hR,_⟩:=H.row hr hp.2.1
       have hex:=(hR.2.2.2.2.2.1 hg).1
       rcases hc with rfl|⟨hx,_⟩
       ·(refine ⟨_,?_,.int _ _⟩;simp[Builtin.cap_,h0,h1,al hu,goInt])
       ·rw[hex] at hx;cases hx
     | slZero=>(refine ⟨_,?_,.int _ _⟩;simp[Builtin.cap_,h0,h1,al hu,goInt])
    ·cases hv
   ·cases hv
  ·cases hv
 ·cases hv
end
section
variable {P:Program} {ρ:Rho} {N:Bs} {h:Hp} {w:World} {a:A} {act:Act}
theorem CM (A:ActR ρ a act) {x:Option Operand} (hx:∀o,x=some o->∃v,a.ev o=some v):OVR ρ (x.bind a.ev) (x.map act.eval):=by
 cases x with
 | none=>exact .none
 | some o =>
   obtain ⟨v,hv⟩:=hx o rfl
   have:(some o).bind a.ev=some v:=hv
   rw[this]
   exact .some (A.ev hv)
theorem t7 {xs:List Operand} {l:List Value} (h:evList a xs=some l) {o:Operand} (ho:o∈xs):∃v,a.ev o=some v:=by
 induction xs generalizing l with
 | nil=>cases ho
 | cons x xs ih =>
   simp only[evList] at h
   split at h
   ·rename_i v r hv hr
    rcases mCo.1 ho with rfl|ho
    ·exact ⟨v,hv⟩
    ·exact ih hr ho
   ·cases h
theorem t8 (W:WfP P) (H:HR P ρ N h w) (A:ActR ρ a act) (o:Oper) (hr:aP o.op=true) {v:Value} (hv:aH P h a o.op=some v) :
  ∃v',(execOp act.eval o).run P w=.ok (.value v') w/\VR ρ v v':=by
 obtain ⟨dst,op,ty,pos,after,guard⟩:=o
 simp only at hr hv
 have fin:∀{s:Sem Value} {v':Value},s.run P w=.ok v' w->(do pure (.value (<-s)):Sem Next).run P w=.ok (.value v') w:=by
  intro s v' hs
  simp[hs]
 cases op<;>simp only[aP] at hr<;>try (cases hr;done)
 case move x =>
  simp only[aH] at hv
  exact ⟨_,by simp[execOp],A.ev hv⟩
 case assign x =>
  simp only[aH] at hv
  exact ⟨_,by simp[execOp],A.ev hv⟩
 case pick c x y =>
  simp only[aH] at hv
  split at hv
  ·rename_i hc
   have:=A.ev hc
   generalize hcv:act.eval c=cv at this
   cases this
   exact ⟨_,by simp[execOp,hcv,asBool],A.ev hv⟩
  ·rename_i hc
   have:=A.ev hc
   generalize hcv:act.eval c=cv at this
   cases this
   exact ⟨_,by simp[execOp,hcv,asBool],A.ev hv⟩
  ·cases hv
 case build t parts =>
  simp only[aH] at hv
  split at hv
  ·rename_i l hl
   obtain ⟨v',h1,h2⟩:=wC (ps':=parts.map fun (i,x)=>(i,act.eval x)) (w:=w) W (by simpa using A.evPairs hl) hv
   exact ⟨v',fin h1,h2⟩
  ·cases hv
 case load t x =>
  simp only[aH] at hv
  split at hv
  ·rename_i p hp
   have:=A.ev hp
   generalize hcv:act.eval x=cv at this
   cases this with
   | ptr ha =>
     obtain ⟨v',h1,h2⟩:=mp H ha hv
     refine ⟨v',?_,h2⟩
     simp[execOp,hcv,Instr.loadAt,Instr.sureAddr,h1]
  ·cases hv
 case nilCheck x =>
  simp only[aH] at hv
  split at hv
  ·rename_i p hp
   injection hv with hv
   subst hv
   have:=A.ev hp
   have h0:=this
   generalize hcv:act.eval x=cv at this h0
   cases this with
   | ptr ha=>exact ⟨_,by simp[execOp,hcv],h0⟩
  ·rename_i f l r hp
   injection hv with hv
   subst hv
   have:=A.ev hp
   have h0:=this
   generalize hcv:act.eval x=cv at this h0
   cases this with
   | func ha hb=>exact ⟨_,by simp[execOp,hcv],h0⟩
  ·rename_i t u hp
   injection hv with hv
   subst hv
   have:=A.ev hp
   have h0:=this
   generalize hcv:act.eval x=cv at this h0
   cases this with
   | iface ha=>exact ⟨_,by simp[execOp,hcv],h0⟩
  ·cases hv
 case binOp bop t x y t2 =>
  simp only[aH] at hv
  split at hv
  ·rename_i u1 u2 h1 h2
   obtain ⟨h3,h4⟩:=wu H hv (A.ev h1) (A.ev h2)
   exact ⟨v,fin h3,h4⟩
  ·cases hv
 case unOp uop t x =>
  simp only[aH] at hv
  split at hv
  ·rename_i u hu
   have:=A.ev hu
   generalize hcv:act.eval x=cv at this
   unfold u9 at hv
   split at hv
   ·cases this
    injection hv with hv
    subst hv
    exact ⟨_,by simp[execOp,hcv,Op.unary,Op.intArith],.int _ _⟩
   ·cases this
    injection hv with hv
    subst hv
    exact ⟨_,by simp[execOp,hcv,Op.unary],.bool _⟩
   ·cases hv
  ·cases hv
 case makeInterface t x =>
  simp only[aH] at hv
  split at hv
  ·cases hv
  ·rename_i u q hni hu hq
   injection hv with hv
   subst hv
   refine ⟨.iface t (act.eval x),?_,.iface (A.ev hu)⟩
   cases q<;>first
    | (simp[execOp,Instr.makeInterface,al hq];done)
    | (exfalso;exact hni _ rfl)
    | (simp_all;done)
  ·cases hv
 case makeFunc fn first captured =>
  simp only[aH] at hv
  split at hv
  ·rename_i l r hl hr2
   injection hv with hv
   subst hv
   refine ⟨.func fn (first.map act.eval) (captured.map act.eval),by simp[execOp,Instr.makeFunc],.func (by simpa using A.evList hl) (by simpa using A.evList hr2)⟩
  ·cases hv
 case slice t x lo hi mx =>
  simp only[aH] at hv
  split at hv
  ·rename_i u l hu hl
   have hm:∀(y:Option Operand),(∀o,y=some o->o∈lo.toList++hi.toList++mx.toList)->OVR ρ (y.bind a.ev) (y.map act.eval) :=
    fun y hy=>CM A fun o ho=>t7 hl (hy o ho)
   obtain ⟨v',h1,h2⟩:=wD H (A.ev hu) (hm lo (by intro o ho;subst ho;simp)) (hm hi (by intro o ho;subst ho;simp)) (hm mx (by intro o ho;subst ho;simp)) hv
   exact ⟨v',fin h1,h2⟩
  ·cases hv
 case fieldAddr t x f =>
  simp only[aH] at hv
  split at hv
  ·rename_i u hu
   obtain ⟨v',h1,h2⟩:=pv H (A.ev hu) hv
   exact ⟨v',fin h1,h2⟩
  ·cases hv
 case field t x f =>
  simp only[aH] at hv
  split at hv
  ·rename_i cs fields hu ht
   split at hv
   ·rename_i fd hf
    have:=A.ev hu
    generalize hcv:act.eval x=cv at this
    cases this with
    | agg hc =>
      obtain ⟨v',h1,h2⟩:=dJ (w:=w) hv hc
      have hf':fields[f]? = some fd:=by simpa using hf
      refine ⟨v',?_,h2⟩
      simp[execOp,hcv,Instr.field,al ht,hf',asAgg,h1]
   ·cases hv
  ·cases hv
 case indexAddr t x i =>
  simp only[aH] at hv
  split at hv
  ·rename_i u1 u2 h1 h2
   obtain ⟨v',h3,h4⟩:=pw H (A.ev h1) (A.ev h2) hv
   exact ⟨v',fin h3,h4⟩
  ·cases hv
 case index t x i =>
  simp only[aH] at hv
  split at hv
  ·rename_i u1 u2 h1 h2
   obtain ⟨v',h3,h4⟩:=wE (w:=w) (A.ev h1) (A.ev h2) hv
   exact ⟨v',fin h3,h4⟩
  ·cases hv
 case lookup t x i ok =>
  simp only[aH] at hv
  split at hv
  ·rename_i u1 u2 h1 h2
   obtain ⟨v',h3,h4⟩:=t6 W H (A.ev h1) (A.ev h2) hv
   exact ⟨v',fin h3,h4⟩
  ·cases hv
 case typeAssert x t1 t2 ok =>
  simp only[aH] at hv
  split at hv
  ·rename_i u hu
   obtain ⟨v',h3,h4⟩:=od (w:=w) (xt:=t1) (A.ev hu) hv
   exact ⟨v',fin h3,h4⟩
  ·cases hv
 case extract x i =>
  simp only[aH] at hv
  split at hv
  ·rename_i vs hu
   have:=A.ev hu
   generalize hcv:act.eval x=cv at this
   cases this with
   | tuple hc =>
     rename_i vs'
     obtain ⟨v',h1,h2⟩:=hc.get hv
     have h1':vs'[i]? = some v':=by simpa using h1
     refine ⟨v',?_,h2⟩
     simp[execOp,hcv,Instr.extract,h1']
  ·cases hv
 case entry x =>
  simp only[aH] at hv
  split at hv
  ·rename_i u hu
   obtain ⟨v',h3,h4⟩:=wF H (A.ev hu) hv
   exact ⟨v',fin h3,h4⟩
  ·cases hv
 case call c =>
  obtain ⟨cal,args,ats⟩:=c
  cases cal with
  | value f=>cases hr
  | invoke r m=>cases hr
  | builtin b =>
    have hargs:∀{l:List Value},evList a args.toList=some l->VRs ρ l (args.map act.eval).toList:=fun hl=>by simpa using A.evList hl
    cases b<;>simp only at hr<;>try (cases hr;done)
    ·
      simp only[aH] at hv
      split at hv
      ·rename_i l hl
       obtain ⟨v',h1,h2⟩:=AW (ty:=ty) H (hargs hl) hv
       exact ⟨v',by simp[execOp,resolve,invoke,builtin,h1],h2⟩
      ·cases hv
    ·
      simp only[aH] at hv
      split at hv
      ·rename_i l hl
       obtain ⟨v',h1,h2⟩:=AV (ty:=ty) H (hargs hl) hv
       exact ⟨v',by simp[execOp,resolve,invoke,builtin,h1],h2⟩
      ·cases hv
    ·
      simp only[aH] at hv
      split at hv
      ·rename_i x r hl
       obtain ⟨x',r',e,hx,hr'⟩:=(hargs hl).cons_inv
       have hrun:∀s,(r'.foldlM Builtin.max2 x').run P w=.ok s w->(Builtin.max_ ats ty (args.map act.eval)).run P w=.ok s w:=by
        intro s hs
        simp only[Builtin.max_,e]
        exact hs
       rcases j5 (P:=P) (w:=w) true r x v x' r' hv hx hr' with h1|⟨rfl,rfl⟩
       ·exact ⟨v,by simp[execOp,resolve,invoke,builtin,hrun _ h1.1],h1.2⟩
       ·cases hr'
        exact ⟨x',by simp[execOp,resolve,invoke,builtin,hrun x' (by simp)],hx⟩
      ·cases hv
    ·
      simp only[aH] at hv
      split at hv
      ·rename_i x r hl
       obtain ⟨x',r',e,hx,hr'⟩:=(hargs hl).cons_inv
       have hrun:∀s,(r'.foldlM Builtin.min2 x').run P w=.ok s w->(Builtin.min_ ats ty (args.map act.eval)).run P w=.ok s w:=by
        intro s hs
        simp only[Builtin.min_,e]
        exact hs
       rcases j5 (P:=P) (w:=w) false r x v x' r' hv hx hr' with h1|⟨rfl,rfl⟩
       ·exact ⟨v,by simp[execOp,resolve,invoke,builtin,hrun _ h1.1],h1.2⟩
       ·cases hr'
        exact ⟨x',by simp[execOp,resolve,invoke,builtin,hrun x' (by simp)],hx⟩
      ·cases hv
end
section
variable {P:Program} {ρ:Rho} {N:Bs} {h:Hp} {w:World} {a:A} {act:Act}
def Dz (nx:Next) (v:Value):Prop:=nx=.value v\/(nx=.skip/\v=undef)
def yK (P:Program) (ρ:Rho) (N:Bs) (w:World) (r:Result Next) (v:Value) (h1:Hp):Prop :=
 ∃ ρ1 w1 nx v',ρ.le ρ1/\r=.ok nx w1/\Dz nx v'/\VR ρ1 v v'/\HR P ρ1 N h1 w1/\Below N w w1
theorem dr {s:Sem Value} {v:Value} {h1:Hp} (hs:∃ ρ1 w1 v',ρ.le ρ1/\s.run P w=.ok v' w1/\VR ρ1 v v'/\HR P ρ1 N h1 w1/\Below N w w1) :
  yK P ρ N w ((do pure (.value (<-s)):Sem Next).run P w) v h1:=by
 obtain ⟨ρ1,w1,v',h1,h2,h3,h4,h5⟩:=hs
 exact ⟨ρ1,w1,_,v',h1,by simp[h2],.inl rfl,h3,h4,h5⟩
theorem jl {s:Sem Unit} {h1:Hp} (hs:∃w1,s.run P w=.ok () w1/\HR P ρ N h1 w1/\Below N w w1) :
  yK P ρ N w ((do s;pure .skip:Sem Next).run P w) ai h1:=by
 obtain ⟨w1,h2,h4,h5⟩:=hs
 exact ⟨ρ,w1,.skip,undef,Rho.le_refl ρ,by simp[h2],.inr ⟨rfl,rfl⟩,.tuple .nil,h4,h5⟩
theorem dM (w:World) (o:Obj):{ w with heap:=w.heap.push o }=w.alloc o:=rfl
theorem jm (e:TypeId) (c':Array Value) (w:World):(newRow e c').run P w=.ok ⟨w.heap.size,0,none⟩ (w.alloc (.cells c' e)):=rfl
def pL (P:Program) (ρ:Rho) (s:Sem Value) (ob:ak) (f:Nat->Value):Prop :=
 ∃(o':Obj) (m:Nat) (f':Nat->Value),(∀w:World,s.run P w=.ok (f' w.heap.size) (w.alloc o'))/\(∀(ρ1:Rho) (b:Nat),ρ.le ρ1->ObjR P ρ1 ⟨b,0,m,0,true⟩ ob o') /\
  (∀(ρ1:Rho) (g b:Nat),ρ1 g=some ⟨b,0,m,0,true⟩->VR ρ1 (f g) (f' b))/\jg ob=true
theorem om {ob:ak} (h:jg ob=true) (r:Row) (e:ob=.cells r):r.fam=0:=by
 subst e
 simpa[jg] using h
theorem jn {s:Sem Value} {e:TypeId} {c:List Value} {c':Array Value} (hc:VRs ρ c c'.toList) {f f':Nat->Value} (hs:∀w:World,s.run P w=.ok (f' w.heap.size) (w.alloc (.cells c' e)))
  (hf:∀(ρ1:Rho) (g b:Nat) (i:Img),AR ρ1 ⟨g,0,none⟩ ⟨b,0,none⟩ i->VR ρ1 (f g) (f' b)):pL P ρ s (.cells ⟨c,e,0,0,false⟩) f:=by
 refine ⟨_,c'.size,f',hs,fun ρ1 b hle => ?_,fun ρ1 g b hg=>hf ρ1 g b _ ⟨rfl,hg,by simp⟩,rfl⟩
 have hl:c'.size=c.length:=by rw[<-Array.length_toList];exact hc.length
 refine ⟨rfl,by simp[hl],by simp,fun k v hk => ?_,fun k _=>by simp,fun _=>⟨rfl,rfl⟩,fun hx=>by cases hx⟩
 obtain ⟨v',h1,h2⟩:=hc.get hk
 exact ⟨v',by simpa using h1,h2.mono hle⟩
theorem eq {c:List Value} {c':Array Value} (hc:VRs ρ c c'.toList):c'.size=c.length:=by rw[<-Array.length_toList];exact hc.length
theorem oq (z:List Value) (hz:0<z.length):∀(n k:Nat),(aC z n)[k]? = if k<n*z.length then z[k % z.length]? else none
 | 0,k=>by simp[aC]
 | n+1,k=>by
   have hs:(n+1)*z.length=n*z.length+z.length:=Nat.succ_mul _ _
   simp only[aC]
   by_cases hk:k<z.length
   ·rw[List.getElem?_append_left hk,if_pos (by omega),Nat.mod_eq_of_lt hk]
   ·rw[List.getElem?_append_right (by omega),oq z hz n]
    by_cases h2:k - z.length<n*z.length
    ·rw[if_pos h2,if_pos (by omega)]
     congr 1
     conv=>rhs;rw[show k=(k - z.length)+z.length by omega]
     rw[Nat.add_mod_right]
    ·rw[if_neg h2,if_neg (by omega)]
theorem ie (z:Array Value) (hz:0<z.size) (n:Nat):((Array.range (n*z.size)).map (fun i=>z[i % z.size]!)).toList=aC z.toList n:=by
 apply List.ext_getElem?
 intro k
 rw[oq z.toList (by simpa using hz) n k]
 simp only[Array.toList_map,Array.toList_range,List.getElem?_map,Array.length_toList,List.getElem?_range]
 by_cases hk:k<n*z.size
 ·have hlt:k % z.size<z.size:=Nat.mod_lt _ hz
  simp[hk,Array.getElem?_eq_getElem hlt,getElem!_pos z (k % z.size) hlt]
 ·simp[hk]
theorem re {α:Type} (f:Nat->α):(Array.range 0).map f=#[]:=by
 apply Array.ext'
 simp
theorem ig {z:List Value} (hz:VRs ρ z z):∀n,VRs ρ (aC z n) (aC z n)
 | 0=>.nil
 | n+1=>hz.append (ig hz n)
theorem rg {t:TypeId} {z:Value} (h:bE P t=some z):VR ρ z z:=by
 unfold bE at h
 split at h
 ·split at h
  ·split at h
   ·rename_i hp
    injection h with h
    subst h
    exact oe 9 _ hp
   ·cases h
  ·cases h
 ·cases h
theorem lJ {t:TypeId} {len:Nat} {ps:List (Nat×Value)} {ps':Array (Nat×Value)} (hps:PRs ρ ps ps'.toList) {ob:ak} {f:Nat->Value} (hv:aY P t len ps=some (ob,f)) :
  pL P ρ (Instr.buildSlice t len ps') ob f:=by
 unfold aY at hv
 split at hv
 ·rename_i e hu
  split at hv
  ·rename_i s z hs hz
   split at hv
   ·rename_i hlen hpos hbig
    split at hv
    ·rename_i c hf
     injection hv with hv
     injection hv with hv1 hv2
     subst hv1
     subst hv2
     have hzv:VR ρ z z:=rg hz
     have e1:z.cells.size=s:=by rw[<-Array.length_toList];exact aF hlen
     have e2:0<s:=by simpa[Nat.blt_eq] using hpos
     have e3:len*s<=100000:=by simpa using hbig
     have hrange:=ie z.cells (by omega) len
     rw[e1] at hrange
     obtain ⟨c',h3,h4⟩:=nY (place':=fun i=>some (i*s,s)) (fun _ _ hp=>hp) hps (c':=(Array.range (len*s)).map (fun i=>z.cells[i % z.cells.size]!)) hf
      (by rw[e1,hrange];exact ig hzv.cells len)
     refine jn (c':=c') (f':=fun b=>.slice (some ⟨b,0,none⟩) len len) h4 (fun w => ?_) (fun ρ1 g b i ha=>.sl ha (.inl rfl))
     obtain ⟨hzr,_⟩:=eF (w:=w) (ρ:=ρ) hz
     obtain ⟨hsr,_⟩:=cP (w:=w) hs
     have r1:=jm (P:=P) e c' w
     have hno:¬(len*s > 2 ^ 24):=by
      have:(2:Nat) ^ 24=16777216:=by decide
      omega
     by_cases h0:len*s=0
     ·rw[h0,re] at h3
      simp only[Instr.buildSlice,Sem.run_bind,al hu,Result.andThen_ok,hsr]
      rw[if_neg hno,if_pos h0]
      simp only[Sem.run_bind,Sem.run_pure,Result.andThen_ok,h0,re,h3,r1]
     ·simp only[Instr.buildSlice,Sem.run_bind,al hu,Result.andThen_ok,hsr]
      rw[if_neg hno,if_neg h0]
      simp[hzr,h3,r1]
    ·cases hv
   ·cases hv
  ·cases hv
 ·cases hv
theorem mL {t:TypeId} {l c l' c':Value} (hl:VR ρ l l') (hc:VR ρ c c') {ob:ak} {f:Nat->Value} (hv:fh P t l c=some (ob,f)) :
  pL P ρ (Instr.makeSlice t l' c') ob f:=by
 unfold fh at hv
 split at hv
 ·rename_i e n m hu hn hm
  obtain ⟨k1,rfl⟩:=fR hl hn
  obtain ⟨k2,rfl⟩:=fR hc hm
  split at hv
  ·rename_i i z hi hz
   split at hv
   ·rename_i hlen hpos hbig hby hle
    split at hv
    ·rename_i hmm
     injection hv with hv
     injection hv with hv1 hv2
     subst hv1
     subst hv2
     have hzv:VR ρ z z:=rg hz
     have e1:z.cells.size=i.size:=by rw[<-Array.length_toList];exact aF hlen
     have e2:0<i.size:=by simpa[Nat.blt_eq] using hpos
     have e3:m*i.bytes<=100000000:=by simpa using hby
     have e4:n<=m:=by simpa using hle
     have e5:m<=100000:=by simpa using hmm
     have hrange:=ie z.cells (by omega) m
     rw[e1] at hrange
     refine jn (c':=(Array.range (m*i.size)).map (fun k=>z.cells[k % z.cells.size]!)) (f':=fun b=>.slice (some ⟨b,0,none⟩) n m) (by rw[e1,hrange];exact ig hzv.cells m) (fun w => ?_) (fun ρ1 g b i ha=>.sl ha (.inl rfl))
     obtain ⟨hzr,_⟩:=eF (w:=w) (ρ:=ρ) hz
     have r1:=jm (P:=P) e ((Array.range (m*i.size)).map (fun k=>z.cells[k % z.cells.size]!)) w
     have w1:IntKind.i64.wrap (n:Int)=n:=by
      unfold IntKind.wrap IntKind.bits IntKind.signed
      simp
      omega
     have w2:IntKind.i64.wrap (m:Int)=m:=by
      unfold IntKind.wrap IntKind.bits IntKind.signed
      simp
      omega
     have t1:¬((m:Int)<0\/((i.bytes:Int)*(m:Int) > 2 ^ 48)):=by
      have h48:(2:Int) ^ 48=281474976710656:=by decide
      have:(i.bytes:Int)*(m:Int)=((m*i.bytes:Nat):Int):=by rw[Nat.mul_comm];simp
      rw[this,h48]
      omega
     have t2:¬((n:Int)<0):=by omega
     have t3:¬((n:Int) > (m:Int)):=by omega
     simp only[Instr.makeSlice,Sem.run_bind,al hu,Result.andThen_ok,asInt,asIntOf,Sem.run_pure,dI hi,w1,w2]
     have t4:(decide ((m:Int)<0)||decide ((i.bytes:Int)*(m:Int) > 2 ^ 48)||decide ((n:Int)<0)||decide ((n:Int) > (m:Int)))=false:=by
      rw[not_or] at t1
      simp only[Bool.or_eq_false_iff,decide_eq_false_iff_not]
      exact ⟨⟨⟨t1.1,t1.2⟩,t2⟩,t3⟩
     rw[t4]
     simp only[Bool.false_eq_true,if_false,Sem.run_bind,run_askRoom,Result.andThen_ok,cC hi,Int.toNat_natCast,Sem.run_ite]
     by_cases h0:m*i.size=0
     ·rw[h0,re] at r1
      rw[if_pos h0]
      simp only[Sem.run_pure,Result.andThen_ok,h0,re,Sem.run_bind]
      simp[r1]
     ·rw[if_neg h0]
      simp[hzr,r1]
    ·cases hv
   ·cases hv
  ·cases hv
 ·cases hv
theorem wQ (H:HR P ρ N h w) {t:TypeId} {p p':Addr} {i:Img} (hp:AR ρ p p' i) {v v':Value} (hvv:VR ρ v v') {h1:Hp} (hs:bc P h t p v=some h1) :
  ∃w1,(Instr.storeAt t (.pointer (some p')) v').run P w=.ok () w1/\HR P ρ N h1 w1/\Below N w w1:=by
 unfold bc at hs
 split at hs
 ·rename_i j hj
  split at hs
  ·rename_i hl
   have e1:v'.cells.size=j.size:=by rw[eq hvv.cells];exact aF hl
   obtain ⟨w1,r1,r2,r3⟩:=H.stores (.inr ⟨i,hp⟩) hvv.cells hs
   refine ⟨w1,?_,r2,r3⟩
   simp[Instr.storeAt,Instr.sureAddr,storeVar,cC hj,e1,r1]
  ·cases hs
 ·cases hs
end
section
variable {P:Program} {ρ:Rho} {N:Bs} {h:Hp} {w:World} {a:A} {act:Act}
theorem dN {r:Nat} {o o':Obj} (hw:w.heap[r]? = some o) (hno:∀c e f,o≠.cells c e f):(setObj r o').run P w=.ok () (World.putBlock w r o'):=by
 cases o<;>first
  | (exact absurd rfl (hno _ _ _))
  | (simp[setObj,Sem.run,hw,World.putBlock];done)
theorem rh:∀(n:Nat) (x y x' y':Value),dS n x y=true->VR ρ x x'->VR ρ y y'->∀D,n<=D->Instr.sameBits D x' y'=true:=by
 intro n
 induction n with
 | zero =>
   intro x y x' y' hs hx hy D hD
   unfold dS at hs
   split at hs
   ·cases hx;cases hy;cases D<;>simpa[Instr.sameBits] using hs
   ·cases hx;cases hy
    simp only[Bool.and_eq_true,da] at hs
    have:=fI hs.1
    subst this
    cases D<;>simp[Instr.sameBits,hs.2]<;>simpa using hs.2
   ·cases hx;cases hy
    rw[ch] at hs
    have:∀s u:ByteArray,(s.data.toList==u.data.toList)=true->(s==u)=true:=by
     intro s u e
     rw[beq_toListBytes,ByteArray.toList_eq,ByteArray.toList_eq]
     exact e
    cases D<;>simpa[Instr.sameBits] using this _ _ hs
   ·cases hx;cases hy;cases D<;>rfl
   ·rename_i e;cases e
   ·rename_i e;cases e
   ·cases hs
 | succ n ih =>
   intro x y x' y' hs hx hy D hD
   obtain ⟨D,rfl⟩:∃k,D=k+1:=⟨D - 1,by omega⟩
   unfold dS at hs
   split at hs
   ·cases hx;cases hy;simpa[Instr.sameBits] using hs
   ·cases hx;cases hy
    simp only[Bool.and_eq_true,da] at hs
    have:=fI hs.1
    subst this
    simp[Instr.sameBits]
    simpa using hs.2
   ·cases hx;cases hy
    rw[ch] at hs
    have:∀s u:ByteArray,(s.data.toList==u.data.toList)=true->(s==u)=true:=by
     intro s u e
     rw[beq_toListBytes,ByteArray.toList_eq,ByteArray.toList_eq]
     exact e
    simpa[Instr.sameBits] using this _ _ hs
   ·cases hx;cases hy;rfl
   ·rename_i t v u v2 e
    injection e with e
    subst e
    cases hx with
    | iface hx =>
    cases hy with
    | iface hy =>
    simp only[Bool.and_eq_true] at hs
    have e1:=aF hs.1
    subst e1
    simp[Instr.sameBits,ih _ _ _ _ hs.2 hx hy D (by omega)]
   ·rename_i b c e
    injection e with e
    subst e
    cases hx with
    | agg hx =>
    rename_i b'
    cases hy with
    | agg hy =>
    rename_i c'
    simp only[Bool.and_eq_true] at hs
    have e1:=aF hs.1
    have e2:b'.size=c'.size:=by rw[eq hx,eq hy];exact e1
    have aux:∀{l m l' m':List Value},VRs ρ l l'->VRs ρ m m'->((l.zip m).all fun (x,y)=>dS n x y)=true->((l'.zip m').all fun (x,y)=>Instr.sameBits D x y)=true:=by
     intro l
     induction l with
     | nil=>intro m l' m' hl hm _;cases hl;simp
     | cons p l ihl =>
       intro m l' m' hl hm hall
       cases hl with
       | cons hp hl =>
       cases hm with
       | nil=>simp
       | cons hq hm =>
         simp only[List.zip_cons_cons,List.all_cons,Bool.and_eq_true] at hall ⊢
         exact ⟨ih _ _ _ _ hall.1 hp hq D (by omega),ihl hl hm hall.2⟩
    simp only[Instr.sameBits,e2,beq_self_eq_true,Bool.true_and]
    exact aux hx hy hs.2
   ·cases hs
theorem MRs.append {l l' m m':List MapEntry} (h:MRs ρ l l') (k:MRs ρ m m'):MRs ρ (l++m) (l'++m'):=by
 induction h with
 | nil=>exact k
 | cons a b c _ ih=>exact .cons a b c ih
theorem MRs.setAt {f f':MapEntry->MapEntry} (hf:∀e e',VR ρ e.key e'.key->VR ρ e.val e'.val->e'.born=e.born->VR ρ (f e).key (f' e').key/\VR ρ (f e).val (f' e').val/\(f' e').born=(f e).born) :
  ∀{l l':List MapEntry},MRs ρ l l'->∀i,MRs ρ (Go.Ev.setAt f l i) (l'.modify i f')
 | _,_,.nil,i=>by cases i<;>exact .nil
 | _,_,.cons a b c k,0=>by
   obtain ⟨h1,h2,h3⟩:=hf _ _ a b c
   exact .cons h1 h2 h3 k
 | _,_,.cons a b c k,i+1=>by
   have:=MRs.setAt hf k i
   exact .cons a b c this
theorem MRs.erase:∀{l l':List MapEntry},MRs ρ l l'->∀i,MRs ρ (l.eraseIdx i) (l'.eraseIdx i)
 | _,_,.nil,i=>by simpa using MRs.nil
 | _,_,.cons a b c k,0=>by simpa using k
 | _,_,.cons a b c k,i+1=>by simpa using MRs.cons a b c (MRs.erase k i)
theorem kG {x y x' y':Value} (hs:dS 40 x y=true) (hx:VR ρ x x') (hy:VR ρ y y'):(Instr.keyThatStays x' y').run P w=.ok y' w:=by
 simp[Instr.keyThatStays,rh 40 x y x' y' hs hx hy 10000 (by omega)]
theorem lK (H:HR P ρ N h w) {r:Nat} {i:Img} (hi:ρ r=some i) {es es1:List MapEntry} {k k1:Nat} {es1':Array MapEntry} (hget:h.objs.get r=some (.map es k)) (hR:MRs ρ es1 es1'.toList) :
  HR P ρ N (h.put r (.map es1 k1)) (World.putBlock w i.b (.map es1' k1))/\Below N w (World.putBlock w i.b (.map es1' k1)) :=
 H.put_alone hi hget (fun _ e=>by cases e) (fun _ e=>by cases e) ⟨hR,rfl⟩
theorem jN (W:WfP P) (H:HR P ρ N h w) {t:TypeId} {m m' k k' v v':Value} (hm:VR ρ m m') (hk:VR ρ k k') (hvv:VR ρ v v') {h1:Hp} (hs:bF P h t m k v=some h1) :
  ∃w1,(Instr.mapUpdate t m' k' v').run P w=.ok () w1/\HR P ρ N h1 w1/\Below N w w1:=by
 unfold bF at hs
 split at hs
 ·rename_i kt et r hu
  cases hm with
  | @map _ i hi =>
  split at hs
  ·rename_i es clock hmp hko
   obtain ⟨es',hw,hMR,hget⟩:=H.map? hmp hi
   obtain ⟨kind,hkd⟩:=fE hko
   have hck:=eE (w:=w) W 40 kt k k' hko hk 10000 (by omega) false
   have hset:=fun o'=>dN (P:=P) (o':=o') hw (fun _ _ _ e=>by cases e)
   split at hs
   ·rename_i j u hf
    obtain ⟨res',h2,h3⟩:=dj H hk hMR hf hkd
    split at hs
    ·rename_i e he
     split at hs
     ·rename_i hsk
      injection hs with hs
      subst hs
      cases h3 with
      | some hu3 =>
      obtain ⟨e',g1,g2,g3,g4⟩:=hMR.get he
      have g1':es'[j]? = some e':=by simpa using g1
      have hR2:MRs ρ (Go.Ev.setAt (fun e=>{ e with key:=k,val:=v }) es j) (es'.modify j fun e=>{ e with key:=k',val:=v' }).toList:=by
       rw[Array.toList_modify]
       exact MRs.setAt (f:=fun e=>{ e with key:=k,val:=v }) (f':=fun e=>{ e with key:=k',val:=v' }) (fun e e' _ _ hb=>⟨hk,hvv,hb⟩) hMR j
      obtain ⟨r1,r2⟩:=lK (k1:=clock) H hi hget hR2
      refine ⟨_,?_,r1,r2⟩
      have hks:=kG (P:=P) (w:=w) hsk g2 hk
      simp[Instr.mapUpdate,al hu,cu hw,hck,h2,g1',hks,hset]
     ·cases hs
    ·cases hs
   ·rename_i hf
    obtain ⟨res',h2,h3⟩:=dj H hk hMR hf hkd
    injection hs with hs
    subst hs
    cases h3 with
    | none =>
    have hR2:MRs ρ (es++[⟨k,v,clock⟩]) (es'.push ⟨k',v',clock⟩).toList:=by
     rw[Array.toList_push]
     exact hMR.append (.cons hk hvv rfl .nil)
    obtain ⟨r1,r2⟩:=lK (k1:=clock+1) H hi hget hR2
    refine ⟨_,?_,r1,r2⟩
    simp[Instr.mapUpdate,al hu,cu hw,hck,h2,hset]
   ·cases hs
  ·cases hs
 ·cases hs
theorem ri (W:WfP P) (H:HR P ρ N h w) {t:TypeId} {m m' k k':Value} (hm:VR ρ m m') (hk:VR ρ k k') {v:Value} {h1:Hp} (hs:lA P h t m k=some (v,h1)) :
  ∃ ρ1 w1 v',ρ.le ρ1/\(Instr.mapEntry t m' k').run P w=.ok v' w1/\VR ρ1 v v'/\HR P ρ1 N h1 w1/\Below N w w1:=by
 unfold lA at hs
 split at hs
 ·rename_i kt et r hu
  cases hm with
  | @map _ i hi =>
  split at hs
  ·rename_i es clock hmp hko
   obtain ⟨es',hw,hMR,hget⟩:=H.map? hmp hi
   obtain ⟨kind,hkd⟩:=fE hko
   have hck:=eE (w:=w) W 40 kt k k' hko hk 10000 (by omega) false
   have hset:=fun o'=>dN (P:=P) (o':=o') hw (fun _ _ _ e=>by cases e)
   split at hs
   ·rename_i j u hf
    obtain ⟨res',h2,h3⟩:=dj H hk hMR hf hkd
    split at hs
    ·rename_i e he
     split at hs
     ·rename_i hsk
      injection hs with hs
      injection hs with hs1 hs2
      subst hs1
      subst hs2
      cases h3 with
      | some hu3 =>
      obtain ⟨e',g1,g2,g3,g4⟩:=hMR.get he
      have g1':es'[j]? = some e':=by simpa using g1
      have hR2:MRs ρ (Go.Ev.setAt (fun e=>{ e with key:=k }) es j) (es'.modify j fun e=>{ e with key:=k' }).toList:=by
       rw[Array.toList_modify]
       exact MRs.setAt (f:=fun e=>{ e with key:=k }) (f':=fun e=>{ e with key:=k' }) (fun e e' _ hv hb=>⟨hk,hv,hb⟩) hMR j
      obtain ⟨r1,r2⟩:=lK (k1:=clock) H hi hget hR2
      have hks:=kG (P:=P) (w:=w) hsk g2 hk
      refine ⟨ρ,_,_,Rho.le_refl ρ,?_,.tuple (c:=#[u,.int .i64 e.born]) (c':=#[_,.int .i64 e.born]) (.cons hu3 (.cons (.int _ _) .nil)),r1,r2⟩
      simp[Instr.mapEntry,al hu,cu hw,hck,h2,g1',hks,hset,goInt,g4]
     ·cases hs
    ·cases hs
   ·rename_i hf
    obtain ⟨res',h2,h3⟩:=dj H hk hMR hf hkd
    split at hs
    ·rename_i z hz
     injection hs with hs
     injection hs with hs1 hs2
     subst hs1
     subst hs2
     obtain ⟨hzr,hzv⟩:=eF (w:=w) (ρ:=ρ) hz
     cases h3 with
     | none =>
     have hR2:MRs ρ (es++[⟨k,z,clock⟩]) (es'.push ⟨k',z,clock⟩).toList:=by
      rw[Array.toList_push]
      exact hMR.append (.cons hk hzv rfl .nil)
     obtain ⟨r1,r2⟩:=lK (k1:=clock+1) H hi hget hR2
     refine ⟨ρ,_,_,Rho.le_refl ρ,?_,.tuple (c:=#[z,.int .i64 clock]) (c':=#[z,.int .i64 clock]) (.cons hzv (.cons (.int _ _) .nil)),r1,r2⟩
     simp[Instr.mapEntry,al hu,cu hw,hck,h2,hset,hzr,goInt]
    ·cases hs
   ·cases hs
  ·cases hs
 ·cases hs
theorem ot (H:HR P ρ N h w) {t:TypeId} {m m' s s' v v':Value} (hm:VR ρ m m') (hss:VR ρ s s') (hvv:VR ρ v v') {h1:Hp} (hs:gu h m s v=some h1) :
  ∃w1,(Instr.entryStore t m' s' v').run P w=.ok () w1/\HR P ρ N h1 w1/\Below N w w1:=by
 unfold gu at hs
 split at hs
 ·rename_i r b hb
  cases hm with
  | @map _ i hi =>
  obtain ⟨kk,rfl⟩:=fR hss hb
  split at hs
  ·rename_i es clock hmp
   obtain ⟨es',hw,hMR,hget⟩:=H.map? hmp hi
   have hset:=fun o'=>dN (P:=P) (o':=o') hw (fun _ _ _ e=>by cases e)
   split at hs
   ·rename_i j hj
    injection hs with hs
    subst hs
    obtain ⟨_,e,e',g1,g2,g3,g4,_⟩:=mu hMR hj
    rw[Nat.sub_zero] at g4
    have hidx:es'.findIdx? (fun e=>(e.born:Int)==(b:Int))=some j:=by
     have hfn:(fun e:MapEntry=>(e.born:Int)==(b:Int))=fun e=>e.born==b:=by
      funext e
      rw[Bool.eq_iff_iff]
      simp
      omega
     rw[hfn]
     rw[<-g4]
     cases es'
     simp
    have hR2:MRs ρ (Go.Ev.setAt (fun e=>{ e with val:=v }) es j) (es'.modify j fun e=>{ e with val:=v' }).toList:=by
     rw[Array.toList_modify]
     exact MRs.setAt (f:=fun e=>{ e with val:=v }) (f':=fun e=>{ e with val:=v' }) (fun e e' hk _ hb=>⟨hk,hvv,hb⟩) hMR j
    obtain ⟨r1,r2⟩:=lK (k1:=clock) H hi hget hR2
    refine ⟨_,?_,r1,r2⟩
    simp[Instr.entryStore,cu hw,asInt,asIntOf,hidx,hset]
   ·cases hs
  ·cases hs
 ·cases hs
theorem uo (W:WfP P) (H:HR P ρ N h w) {ts:Array TypeId} {ty:TypeId} {t:TypeId} (ht:ts[0]? = some t) {l':Array Value} {m m' k k':Value} (h0:l'[0]? = some m') (h1':l'[1]? = some k') (hm:VR ρ m m') (hk:VR ρ k k') {v:Value} {h1:Hp} (hs:qO P h t m k=some (v,h1)) :
  ∃ ρ1 w1 v',ρ.le ρ1/\(Builtin.delete_ ts ty l').run P w=.ok v' w1/\VR ρ1 v v'/\HR P ρ1 N h1 w1/\Below N w w1:=by
 unfold qO at hs
 split at hs
 ·rename_i kt et hu
  cases hm
  split at hs
  ·rename_i hko
   injection hs with hs
   injection hs with hs1 hs2
   subst hs1
   subst hs2
   have hck:=eE (w:=w) W 40 kt k k' hko hk 10000 (by omega) true
   refine ⟨ρ,w,_,Rho.le_refl ρ,?_,.tuple (c:=#[]) (c':=#[]) .nil,H,Below.refl _ _⟩
   simp[Builtin.delete_,ht,h0,h1',al hu,hck]
  ·cases hs
 ·rename_i kt et r hu
  cases hm with
  | @map _ i hi =>
  split at hs
  ·rename_i es clock hmp hko
   obtain ⟨es',hw,hMR,hget⟩:=H.map? hmp hi
   obtain ⟨kind,hkd⟩:=fE hko
   have hck:=fun em=>eE (w:=w) W 40 kt k k' hko hk 10000 (by omega) em
   have hset:=fun o'=>dN (P:=P) (o':=o') hw (fun _ _ _ e=>by cases e)
   split at hs
   ·rename_i j u hf
    obtain ⟨res',h2,h3⟩:=dj H hk hMR hf hkd
    injection hs with hs
    injection hs with hs1 hs2
    subst hs1
    subst hs2
    cases h3 with
    | some hu3 =>
    have hR2:MRs ρ (es.eraseIdx j) (es'.eraseIdxIfInBounds j).toList:=by
     have:(es'.eraseIdxIfInBounds j).toList=es'.toList.eraseIdx j:=by
      unfold Array.eraseIdxIfInBounds
      split
      ·simp
      ·rename_i hge
       rw[List.eraseIdx_of_length_le (by simpa using hge)]
     rw[this]
     exact hMR.erase j
    obtain ⟨r1,r2⟩:=lK (k1:=clock) H hi hget hR2
    refine ⟨ρ,_,_,Rho.le_refl ρ,?_,.tuple (c:=#[]) (c':=#[]) .nil,r1,r2⟩
    simp[Builtin.delete_,ht,h0,h1',al hu,cu hw,hck,h2,hset]
   ·rename_i hf
    obtain ⟨res',h2,h3⟩:=dj H hk hMR hf hkd
    injection hs with hs
    injection hs with hs1 hs2
    subst hs1
    subst hs2
    cases h3 with
    | none =>
    refine ⟨ρ,w,_,Rho.le_refl ρ,?_,.tuple (c:=#[]) (c':=#[]) .nil,H,Below.refl _ _⟩
    simp[Builtin.delete_,ht,h0,h1',al hu,cu hw,hck,h2,hset,jJ w _ _ hw]
   ·cases hs
  ·cases hs
 ·cases hs
end
section
variable {P:Program} {ρ:Rho} {N:Bs} {h:Hp} {w:World} {a:A} {act:Act}
theorem kH {o:ak} {b:Nat} {h1:Hp} (hn:h.new o=some (b,h1)):b=h.next:=by
 unfold Hp.new at hn
 injection hn with hn;injection hn with e1 e2;exact e1.symm
theorem j8 (H:HR P ρ N h w) {o:ak} {b:Nat} {h1:Hp} (hn:h.new o=some (b,h1)) {o':Obj} (hR:∀ ρ':Rho,ρ.le ρ'->ObjR P ρ' ⟨w.heap.size,0,0,0,true⟩ o o') (hno:∀r,o≠.cells r) :
  ∃ ρ1:Rho,(newObj o').run P w=.ok w.heap.size (w.alloc o')/\ρ.le ρ1/\HR P ρ1 N h1 (w.alloc o')/\Below N w (w.alloc o')/\ρ1 b=some ⟨w.heap.size,0,0,0,true⟩:=by
 have hb:=kH hn
 subst hb
 have hle:=H.le_put ⟨w.heap.size,0,0,0,true⟩
 obtain ⟨_,h2,h3⟩:=H.new hn ⟨w.heap.size,0,0,0,true⟩ rfl (hR _ hle) (fun r e=>absurd e (hno r))
 exact ⟨_,rfl,hle,h2,h3,by simp[Rho.put]⟩
theorem wR (H:HR P ρ N h w) {t:TypeId} {x x':Value} (hx:VR ρ x x') {v:Value} {h1:Hp} (hv:range' P h t x=some (v,h1)) :
  ∃ ρ1 w1 v',ρ.le ρ1/\(Instr.range t x').run P w=.ok v' w1/\VR ρ1 v v'/\HR P ρ1 N h1 w1/\Below N w w1:=by
 have fin:∀{ρ1:Rho} {b:Nat},ρ1 b=some ⟨w.heap.size,0,0,0,true⟩->VR ρ1 (.pointer (some ⟨b,0,none⟩)) (.pointer (some ⟨w.heap.size,0,none⟩)):=by
  intro ρ1 b hb
  exact .ptr (i:=⟨w.heap.size,0,0,0,true⟩) ⟨rfl,hb,rfl⟩
 unfold range' at hv
 split at hv
 ·rename_i s hu
  cases hx
  split at hv
  ·rename_i b h2 hn
   injection hv with hv
   injection hv with hv1 hv2
   subst hv1;subst hv2
   obtain ⟨ρ1,r1,r2,r3,r4,r5⟩:=j8 (o':=.stringIter s 0) H hn (fun _ _=>⟨rfl,rfl,rfl⟩) (fun _ e=>by cases e)
   exact ⟨ρ1,_,_,r2,by simp[Instr.range,al hu,dM],fin r5,r3,r4⟩
  ·cases hv
 ·rename_i k e hu
  cases hx
  split at hv
  ·rename_i b h2 hn
   injection hv with hv
   injection hv with hv1 hv2
   subst hv1;subst hv2
   obtain ⟨ρ1,r1,r2,r3,r4,r5⟩:=j8 (o':=.mapIter none 0 #[] 0) H hn (fun _ _=>⟨trivial,rfl,rfl,rfl,rfl⟩) (fun _ e=>by cases e)
   exact ⟨ρ1,_,_,r2,by simp[Instr.range,al hu,dM],fin r5,r3,r4⟩
  ·cases hv
 ·rename_i k e m hu
  cases hx with
  | @map _ i hi =>
  split at hv
  ·rename_i es clock hm
   obtain ⟨es',hw,hMR,hget⟩:=H.map? hm hi
   split at hv
   ·rename_i b h2 hn
    injection hv with hv
    injection hv with hv1 hv2
    subst hv1;subst hv2
    obtain ⟨ρ1,r1,r2,r3,r4,r5⟩:=j8 (o':=.mapIter (some i.b) clock #[] clock) H hn (fun ρ' hle=>⟨⟨i,hle _ _ hi,rfl⟩,rfl,rfl,rfl,rfl⟩) (fun _ e=>by cases e)
    exact ⟨ρ1,_,_,r2,by simp[Instr.range,al hu,cu hw,dM],fin r5,r3,r4⟩
   ·cases hv
  ·cases hv
 ·cases hv
theorem MRs.filter {p p':MapEntry->Bool} (hp:∀e e',e'.born=e.born->p' e'=p e):∀{l l':List MapEntry},MRs ρ l l'->MRs ρ (l.filter p) (l'.filter p')
 | _,_,.nil=>by simpa using MRs.nil
 | _,_,.cons (e:=e) (e':=e') (l:=l) a b c k=>by
   have:=hp _ _ c
   by_cases h:p e=true
   ·rw[List.filter_cons_of_pos h,List.filter_cons_of_pos (by rw[this];exact h)]
    exact .cons a b c (MRs.filter hp k)
   ·rw[List.filter_cons_of_neg h,List.filter_cons_of_neg (by rw[this];exact h)]
    exact MRs.filter hp k
theorem ij {r:Nat} {o:Obj} (hw:w.heap[r]? = some o) (hno:∀c e f,o≠.cells c e f):(getObj r).run P w=.ok o w:=by
 cases o<;>first
  | (exact absurd rfl (hno _ _ _))
  | (simp[getObj,Sem.run,hw];done)
theorem kI (l:List Nat) (b:Nat):l.contains b=l.any (fun x=>Nat.beq x b):=by
 induction l with
 | nil=>rfl
 | cons x l ih =>
   rw[List.contains_cons,List.any_cons,ih]
   congr 1
   rw[Bool.eq_iff_iff]
   simp
   exact eq_comm
theorem rj {p p':MapEntry->Bool} (hp:∀e e',e'.born=e.born->p' e'=p e):∀{l l':List MapEntry},MRs ρ l l'->l'.all p'=l.all p
 | _,_,.nil=>rfl
 | _,_,.cons a b c k=>by simp[hp _ _ c,rj hp k]
theorem yL (H:HR P ρ N h w) {x x':Value} (hx:VR ρ x x') {s:Bool} {ty:TypeId} {v:Value} {h1:Hp} (hv:xO h x s=some (v,h1)) :
  ∃ ρ1 w1 v',ρ.le ρ1/\(Instr.next x' s ty).run P w=.ok v' w1/\VR ρ1 v v'/\HR P ρ1 N h1 w1/\Below N w w1:=by
 unfold xO at hv
 split at hv
 ·rename_i p
  cases hx with
  | @ptr _ p' i hp =>
  have hi:=hp.2.1
  have objOf:∀{o:ak},h.objs.get p.block=some o->(∀r,o≠.cells r)->∃o',w.heap[i.b]? = some o'/\ObjR P ρ i o o':=by
   intro o ho hno
   exact H.obj p.block o i ho (fun r hr=>by rw[ho] at hr;injection hr with hr;exact absurd hr (hno r)) hi
  split at hv
  ·
    rename_i str pos hoff hobj
    obtain ⟨o',ho,hR⟩:=objOf hobj (fun _ e=>by cases e)
    cases o'<;>simp only[ObjR] at hR
    obtain ⟨rfl,rfl,hs0⟩:=hR
    rename_i s' pos'
    have hz:i.s+p.off=0:=by omega
    have hget:=ij (P:=P) ho (fun _ _ _ e=>by cases e)
    have hset:=fun o'=>dN (P:=P) (o':=o') ho (fun _ _ _ e=>by cases e)
    rw[hp.fn,hz]
    split at hv
    ·rename_i hlt
     have hlt':pos'<s'.size:=by rw[eW];simpa[Nat.blt_eq] using hlt
     split at hv
     rename_i c wd hd
     injection hv with hv
     injection hv with hv1 hv2
     subst hv1;subst hv2
     obtain ⟨r1,r2⟩:=H.put_alone (o:=.sIter s' (pos'+wd)) (o':=.stringIter s' (pos'+wd)) hi hobj (fun _ e=>by cases e) (fun _ e=>by cases e) ⟨rfl,rfl,hs0⟩
     refine ⟨ρ,_,_,Rho.le_refl ρ,?_,.tuple (c:=#[.bool true,.int .i64 pos',.int .i32 c]) (c':=#[.bool true,.int .i64 pos',.int .i32 c]) (.cons (.bool _) (.cons (.int _ _) (.cons (.int _ _) .nil))),r1,r2⟩
     simp[Instr.next,hget,hlt',hd,hset,goInt]
    ·rename_i hlt
     have hlt':¬pos'<s'.size:=by rw[eW];intro hh;rw[show Nat.blt pos' s'.data.toList.length=true by rw[Nat.blt_eq];exact hh] at hlt;cases hlt
     injection hv with hv
     injection hv with hv1 hv2
     subst hv1;subst hv2
     refine ⟨ρ,_,_,Rho.le_refl ρ,?_,.tuple (c:=#[.bool false]) (c':=#[.bool false]) (.cons (.bool _) .nil),H,Below.refl _ _⟩
     simp[Instr.next,hget,hlt']
  ·
    rename_i since seen last hoff hobj
    obtain ⟨o',ho,hR⟩:=objOf hobj (fun _ e=>by cases e)
    cases o'<;>simp only[ObjR] at hR
    rename_i m' since' seen' st'
    obtain ⟨hm,rfl,hseen,rfl,hs0⟩:=hR
    cases m' with
    | some m'=>simp at hm
    | none =>
    have hz:i.s+p.off=0:=by omega
    have hget:=ij (P:=P) ho (fun _ _ _ e=>by cases e)
    rw[hp.fn,hz]
    injection hv with hv
    injection hv with hv1 hv2
    subst hv1;subst hv2
    refine ⟨ρ,_,_,Rho.le_refl ρ,?_,.tuple (c:=#[.bool false]) (c':=#[.bool false]) (.cons (.bool _) .nil),H,Below.refl _ _⟩
    simp[Instr.next,hget]
  ·
    rename_i m since seen last hoff hobj
    obtain ⟨o',ho,hR⟩:=objOf hobj (fun _ e=>by cases e)
    cases o'<;>simp only[ObjR] at hR
    rename_i m' since' seen' st'
    obtain ⟨hm,rfl,hseen,rfl,hs0⟩:=hR
    cases m' with
    | none=>simp at hm
    | some m' =>
    obtain ⟨j,hj,rfl⟩:=hm
    have hz:i.s+p.off=0:=by omega
    have hget:=ij (P:=P) ho (fun _ _ _ e=>by cases e)
    have hset:=fun o'=>dN (P:=P) (o':=o') ho (fun _ _ _ e=>by cases e)
    split at hv
    ·rename_i es clock hmap
     obtain ⟨es',hw,hMR,_⟩:=H.map? hmap hj
     have hget2:=cu (P:=P) hw
     split at hv
     ·cases hv
     ·rename_i hfresh
      have q1:(!seen'.isEmpty && !es'.isEmpty&&es'.all (fun e=>decide (e.born≥st')))=false:=by
       have e1:seen'.isEmpty=seen.isEmpty:=by rw[<-hseen];simp
       have e2:es'.isEmpty=es.isEmpty:=by
        have:=hMR.length
        rw[Bool.eq_iff_iff,Array.isEmpty_iff,List.isEmpty_iff,<-Array.toList_eq_nil_iff,<-List.length_eq_zero_iff,<-List.length_eq_zero_iff,this]
       have e3:es'.all (fun e=>decide (e.born≥st'))=es.all fun e=>Nat.ble st' e.born:=by
        rw[<-Array.all_toList]
        refine rj (fun e e' hb => ?_) hMR
        rw[hb,Bool.eq_iff_iff]
        simp
       rw[e1,e2,e3]
       cases h1:seen.isEmpty<;>cases h2:es.isEmpty<;>cases h3:(es.all fun e=>Nat.ble st' e.born)<;>simp_all
      have hleft:MRs ρ (es.filter fun e => !(seen.any fun b=>Nat.beq b e.born)) (es'.filter fun e => !seen'.contains e.born).toList:=by
       rw[Array.toList_filter]
       refine hMR.filter (fun e e' hb => ?_)
       rw[hb,<-hseen,<-kI]
       simp
      generalize hL:(es.filter fun e => !(seen.any fun b=>Nat.beq b e.born))=L at hv hleft
      generalize hL':(es'.filter fun e => !seen'.contains e.born)=L' at hleft
      have hold:MRs ρ (L.filter fun e=>Nat.blt e.born since') (L'.filter fun e=>decide (e.born<since')).toList:=by
       rw[Array.toList_filter]
       refine hleft.filter (fun e e' hb => ?_)
       rw[hb,Bool.eq_iff_iff]
       simp[Nat.blt_eq]
      have hnew:MRs ρ (L.filter fun e=>Nat.ble since' e.born) (L'.filter fun e=>decide (e.born≥since')).toList:=by
       rw[Array.toList_filter]
       refine hleft.filter (fun e e' hb => ?_)
       rw[hb,Bool.eq_iff_iff]
       simp
      have q1':(!seen'.isEmpty && !es'.isEmpty&&es'.all (fun x=>decide (x.born≥st')))=false:=q1
      simp only[] at hv
      split at hv
      ·rename_i h1 h2
       rw[h1] at hold
       rw[h2] at hnew
       injection hv with hv
       injection hv with hv1 hv2
       subst hv1;subst hv2
       have o1:(L'.filter fun e=>decide (e.born<since'))=#[]:=by
        apply Array.ext'
        cases hc:(L'.filter fun e=>decide (e.born<since')).toList with
        | nil=>rfl
        | cons x r=>rw[hc] at hold;cases hold
       have o2:(L'.filter fun e=>decide (e.born≥since'))=#[]:=by
        apply Array.ext'
        cases hc:(L'.filter fun e=>decide (e.born≥since')).toList with
        | nil=>rfl
        | cons x r=>rw[hc] at hnew;cases hnew
       refine ⟨ρ,w,_,Rho.le_refl ρ,?_,.tuple (c:=#[.bool false]) (c':=#[.bool false]) (.cons (.bool _) .nil),H,Below.refl _ _⟩
       rw[hp.fn,hz]
       simp only[Instr.next,Sem.run_bind,hget,Result.andThen_ok,hget2,q1',Bool.false_eq_true,if_false,Sem.run_pure,hL',o1,o2]
       simp[Question.forced]
      ·rename_i e h1 h2
       rw[h1] at hold
       rw[h2] at hnew
       injection hv with hv
       injection hv with hv1 hv2
       subst hv1;subst hv2
       obtain ⟨e',o1,hek,hev,heb⟩:∃e',(L'.filter fun e=>decide (e.born<since'))=#[e']/\VR ρ e.key e'.key/\VR ρ e.val e'.val/\e'.born=e.born:=by
        cases hc:(L'.filter fun e=>decide (e.born<since')).toList with
        | nil=>rw[hc] at hold;cases hold
        | cons x r =>
          rw[hc] at hold
          cases hold with
          | cons a b c k =>
          cases k
          exact ⟨x,by apply Array.ext';rw[hc],a,b,c⟩
       have o2:(L'.filter fun e=>decide (e.born≥since'))=#[]:=by
        apply Array.ext'
        cases hc:(L'.filter fun e=>decide (e.born≥since')).toList with
        | nil=>rfl
        | cons x r=>rw[hc] at hnew;cases hnew
       obtain ⟨r1,r2⟩:=H.put_alone (o:=.mIter (some m) since' (seen++[e.born]) clock) (o':=.mapIter (some j.b) since' (seen'.push e'.born) clock) hi hobj (fun _ e=>by cases e) (fun _ e=>by cases e)
        ⟨⟨j,hj,rfl⟩,rfl,by rw[Array.toList_push,hseen,heb],rfl,hs0⟩
       refine ⟨ρ,_,_,Rho.le_refl ρ,?_,.tuple (c:=#[.bool true,e.key,e.val]) (c':=#[.bool true,e'.key,e'.val]) (.cons (.bool _) (.cons hek (.cons hev .nil))),r1,r2⟩
       rw[hp.fn,hz]
       simp only[Instr.next,Sem.run_bind,hget,Result.andThen_ok,hget2,q1',Bool.false_eq_true,if_false,Sem.run_pure,hL',o1,o2]
       simp[Question.forced,hset]
      ·cases hv
    ·cases hv
  ·cases hv
 ·cases hv
end
section
variable {P:Program} {ρ:Rho} {N:Bs} {h:Hp} {w:World} {a:A} {act:Act}
theorem HR.grow (H:HR P ρ N h w) {B:Nat} {i:Img} {r:Row} {arr:Array Value} {e0:TypeId} {fr:Nat×Nat} (hi:ρ B=some i) (hr:h.row B=some r)
  (hw:w.heap[i.b]? = some (.cells arr e0 fr)) (top:Nat) {w1:World} {arr1:Array Value} (hw1:w1.heap[i.b]? = some (.cells arr1 e0 fr)) (hsz:arr1.size=arr.size)
  (hsame:∀k,k+r.base<i.s+top->arr1[k]? = arr[k]?) (hoth:∀k,k<w.heap.size->k≠i.b->w1.heap[k]? = w.heap[k]?) (hgrow:w.heap.size<=w1.heap.size)
  (q1:Row) (i1:Img) (o1:Obj) (ho1:w1.heap[i1.b]? = some o1) (hR1:ObjR P (ρ.put h.next i1) i1 (.cells q1) o1)
  (hi1:(i1.b=i.b/\i1.s+r.base=i.s+q1.base)\/(w.heap.size<=i1.b/\i1.b<w1.heap.size)) (f:Nat) (hf:q1.fam=f)
  (hff:(f=r.fam/\r.fam≠0)\/(r.fam=0/\f=h.nfam)) {h1:Hp} (hobj:∀d,h1.objs.get d=if d=h.next then some (.cells q1) else if d=B then some (.cells { r with fam:=f }) else h.objs.get d)
  {l1:List Mem} (hl1:h1.fams.get f=some l1) (hfam:∀g,g≠f->h1.fams.get g=h.fams.get g)
  (hmem:∀m∈l1,m=⟨h.next,q1.base,q1.base+q1.c.length⟩\/(m.hi<=top/\(m=⟨B,r.base,r.base+r.c.length⟩\/∃l0,h.fams.get f=some l0/\r.fam=f/\m∈l0)))
  (hnx:h1.next=h.next+1) (hbs:h1.base=h.base) (hro:h1.ro=h.ro) (hnf:f<h1.nfam) (hnf1:h.nfam<=h1.nfam) (hnf3:∀g,g<h1.nfam->g≠f->g<h.nfam):HR P (ρ.put h.next i1) N h1 w1:=by
 obtain ⟨hget,hfams⟩:=ff hr
 have hBn:B<h.next:=H.cover _ _ hget
 have hf0:f≠0:=by
  rcases hff with ⟨h1,h2⟩|⟨_,h2⟩
  ·rw[h1];exact h2
  ·have:=H.nf0;omega
 have hib:=H.lo B i hi
 have cs:∀d j,(ρ.put h.next i1) d=some j->(d=h.next/\j=i1)\/(d≠h.next/\ρ d=some j):=by
  intro d j hj
  unfold Rho.put at hj
  by_cases hd:d=h.next
  ·rw[if_pos hd] at hj;injection hj with hj;exact .inl ⟨hd,hj.symm⟩
  ·rw[if_neg hd] at hj;exact .inr ⟨hd,hj⟩
 have hle:=H.le_put i1
 have below:∀(d:Nat) (j:Img) (q:Row),ρ d=some j->h.objs.get d=some (.cells q)->h.alive d->(d=B\/(d≠B/\j.b=i.b/\i.s+q.base=j.s+r.base))->q.base+q.c.length<=top->∃o',w1.heap[j.b]? = some o'/\∀f',ObjR P (ρ.put h.next i1) j (.cells { q with fam:=f' }) o':=by
  intro d j q hj hq hal hdB hhi
  obtain ⟨o',g1,g2⟩:=H.obj d _ j hq hal hj
  have hjb:j.b=i.b/\i.s+q.base=j.s+r.base:=by
   rcases hdB with rfl|⟨_,h1,h2⟩
   ·rw[hi] at hj
    injection hj with hj
    subst hj
    rw[hget] at hq
    injection hq with hq
    injection hq with hq
    subst hq
    exact ⟨rfl,rfl⟩
   ·exact ⟨h1,h2⟩
  rw[hjb.1,hw] at g1
  injection g1 with g1
  subst g1
  refine ⟨_,by rw[hjb.1];exact hw1,fun f' => ?_⟩
  have g3:=g2.mono hle
  simp only[ObjR] at g3 ⊢
  refine ⟨g3.1,by rw[hsz];exact g3.2.1,by rw[hsz];exact g3.2.2.1,fun k v hk => ?_,by rw[hsz];exact g3.2.2.2.2.1,g3.2.2.2.2.2⟩
  have hkl:k<q.c.length:=by
   rcases Nat.lt_or_ge k q.c.length with h|h
   ·exact h
   ·have hk':q.c[k]? = some v:=hk
    rw[List.getElem?_eq_none h] at hk';cases hk'
  rw[hsame _ (by omega)]
  exact g3.2.2.2.1 k v hk
 refine ⟨?_,?_,?_,?_,?_,?_,?_,by omega,by have:=H.base;omega,fun d hd=>⟨by unfold Rho.put;rw[if_neg (by have:=(H.gho d hd).2;omega)];exact (H.gho d hd).1,by rw[hnx];have:=(H.gho d hd).2;omega⟩,by rw[hbs];exact H.bn,fun d hd=>hle _ _ (H.rid d (by rw[<-hbs];exact hd)),fun d q hq => ?_,fun b k v hb hv => ?_⟩
 ·
   intro d o j ho hal hj
   rw[hobj] at ho
   rcases cs d j hj with ⟨rfl,rfl⟩|⟨hd,hj'⟩
   ·rw[if_pos rfl] at ho
    injection ho with ho
    subst ho
    exact ⟨o1,ho1,hR1⟩
   ·rw[if_neg hd] at ho
    have live:∀q,h1.objs.get d=some (.cells q)->q.fam=f->∃m,m∈l1/\m.b=d/\m.hi<=top/\(m=⟨B,r.base,r.base+r.c.length⟩\/∃l0,h.fams.get f=some l0/\r.fam=f/\m∈l0):=by
     intro q hq hqf
     have:=(ff (hal q hq)).2
     rw[hqf] at this
     obtain ⟨l2,e1,m,hm,e2⟩:=this.resolve_left hf0
     rw[hl1] at e1
     injection e1 with e1
     subst e1
     rcases hmem m hm with rfl|⟨g1,g2⟩
     ·exact absurd e2.symm hd
     ·exact ⟨m,hm,e2,g1,g2⟩
    by_cases hdB:d=B
    ·rw[if_pos hdB] at ho
     injection ho with ho
     subst ho
     obtain ⟨m,hm,e2,g1,g2⟩:=live _ (by rw[hobj,if_neg hd,if_pos hdB]) rfl
     have hhi:m.hi=r.base+r.c.length:=by
      rcases g2 with rfl|⟨l0,h0,h2,h3⟩
      ·rfl
      ·obtain ⟨q,k1,k2,k3,k4⟩:=H.mem f l0 m h0 h3 (by rw[<-h2];exact H.famlt _ _ hget) (by first|exact hf0|omega)
       rw[e2,hdB,hget] at k1
       injection k1 with k1
       injection k1 with k1
       subst k1
       exact k4
     have hal':h.alive d:=by
      intro q hq
      rw[hdB,hget] at hq
      injection hq with hq
      injection hq with hq
      subst hq
      rw[hdB]
      exact hr
     obtain ⟨o',e3,e4⟩:=below d j r hj' (by rw[hdB];exact hget) hal' (.inl hdB) (by omega)
     exact ⟨o',e3,e4 f⟩
    ·rw[if_neg hdB] at ho
     by_cases hcell:∃q,o=.cells q/\q.fam=f
     ·obtain ⟨q,rfl,hqf⟩:=hcell
      obtain ⟨m,hm,e2,g1,g2⟩:=live q (by rw[hobj,if_neg hd,if_neg hdB];exact ho) hqf
      rcases g2 with rfl|⟨l0,h0,h2,h3⟩
      ·exact absurd e2.symm hdB
      ·obtain ⟨q2,k1,k2,k3,k4⟩:=H.mem f l0 m h0 h3 (by rw[<-h2];exact H.famlt _ _ hget) (by first|exact hf0|omega)
       rw[e2,ho] at k1
       injection k1 with k1
       injection k1 with k1
       subst k1
       have hal':h.alive d:=by
        intro q' hq'
        rw[ho] at hq'
        injection hq' with hq'
        injection hq' with hq'
        subst hq'
        exact iO ho (.inr ⟨l0,by rw[hqf];exact h0,m,h3,e2⟩)
       by_cases ejb:j.b=i.b
       ·obtain ⟨r0,q0,t1,t2,t3,t4,t5⟩:=H.inj B d i j hi hj' (fun e=>hdB e.symm) ejb.symm
        rw[hget] at t1
        injection t1 with t1
        injection t1 with t1
        subst t1
        rw[ho] at t2
        injection t2 with t2
        injection t2 with t2
        subst t2
        obtain ⟨o',e3,e4⟩:=below d j q hj' ho hal' (.inr ⟨hdB,ejb,t5⟩) (by omega)
        exact ⟨o',e3,e4 q.fam⟩
       ·obtain ⟨o',e3,e4⟩:=H.obj d _ j ho hal' hj'
        exact ⟨o',by rw[hoth _ (H.lo d j hj').2 ejb];exact e3,e4.mono hle⟩
     ·
       have hal':h.alive d:=by
        intro q hq
        have hq1:h1.objs.get d=some (.cells q):=by rw[hobj,if_neg hd,if_neg hdB];exact hq
        have hne:q.fam≠f:=by
         intro e
         rw[ho] at hq
         injection hq with hq
         exact hcell ⟨q,hq,e⟩
        rcases (ff (hal q hq1)).2 with h0|⟨l2,e1,m,hm,e2⟩
        ·exact iO hq (.inl h0)
        ·rw[hfam _ hne] at e1
         exact iO hq (.inr ⟨l2,e1,m,hm,e2⟩)
       obtain ⟨o',e3,e4⟩:=H.obj d o j ho hal' hj'
       have hjb:j.b≠i.b:=by
        intro e
        obtain ⟨r0,q0,t1,t2,t3,t4,t5⟩:=H.inj B d i j hi hj' (fun e=>hdB e.symm) e.symm
        rw[hget] at t1
        injection t1 with t1
        injection t1 with t1
        subst t1
        rw[ho] at t2
        injection t2 with t2
        rcases hff with ⟨u1,u2⟩|⟨u1,u2⟩
        ·exact hcell ⟨q0,t2,by omega⟩
        ·exact t4 u1
       exact ⟨o',by rw[hoth _ (H.lo d j hj').2 hjb];exact e3,e4.mono hle⟩
 ·intro d j hj
  rw[hnx]
  rcases cs d j hj with ⟨rfl,_⟩|⟨_,hj'⟩
  ·omega
  ·have:=H.dom d j hj';omega
 ·intro d j hj
  rcases cs d j hj with ⟨rfl,rfl⟩|⟨_,hj'⟩
  ·rcases hi1 with ⟨e,_⟩|⟨e1,e2⟩
   ·exact ⟨fun _=>by rw[e];exact hib.1 (H.low _ _ hget),by have:=hib.2;omega⟩
   ·exact ⟨fun _=>by have:=H.base;omega,e2⟩
  ·have:=H.lo d j hj'
   exact ⟨fun hb=>this.1 (by rw[<-hbs];exact hb),by omega⟩
 ·
   intro d g j k hj hk hne ejk
   have withNew:∀d j,d≠h.next->ρ d=some j->j.b=i1.b->sj h1 h.next d i1 j:=by
    intro d j hd hj' e
    have hlo:=H.lo d j hj'
    rcases hi1 with ⟨e1,e2⟩|⟨e1,_⟩
    ·by_cases hdB:d=B
     ·subst hdB
      rw[hi] at hj'
      injection hj' with hj'
      subst hj'
      exact ⟨q1,{ r with fam:=f },by rw[hobj,if_pos rfl],by rw[hobj,if_neg hd,if_pos rfl],hf,by rw[hf];exact hf0,e2⟩
     ·obtain ⟨r0,q0,t1,t2,t3,t4,t5⟩:=H.inj B d i j hi hj' (fun e=>hdB e.symm) (by omega)
      rw[hget] at t1
      injection t1 with t1
      injection t1 with t1
      subst t1
      have hrf:r.fam=f:=by
       rcases hff with ⟨u1,u2⟩|⟨u1,u2⟩
       ·exact u1.symm
       ·exact absurd u1 t4
      exact ⟨q1,q0,by rw[hobj,if_pos rfl],by rw[hobj,if_neg hd,if_neg hdB];exact t2,by omega,by rw[hf];exact hf0,by omega⟩
    ·omega
   rcases cs d j hj with ⟨e1,e2⟩|⟨e1,e2⟩<;>rcases cs g k hk with ⟨f1,f2⟩|⟨f1,f2⟩
   ·exact absurd (e1.trans f1.symm) hne
   ·subst e1;subst e2
    exact withNew g k f1 f2 ejk.symm
   ·subst f1;subst f2
    obtain ⟨x,y,t1,t2,t3,t4,t5⟩:=withNew d j e1 e2 ejk
    exact ⟨y,x,t2,t1,t3.symm,by omega,t5.symm⟩
   ·obtain ⟨x,y,t1,t2,t3,t4,t5⟩:=H.inj d g j k e2 f2 hne ejk
    by_cases hdB:d=B
    ·have hgB:g≠B:=fun e=>hne (hdB.trans e.symm)
     rw[hdB,hget] at t1
     injection t1 with t1
     injection t1 with t1
     subst t1
     have hrf:r.fam=f:=by
      rcases hff with ⟨u1,u2⟩|⟨u1,u2⟩
      ·exact u1.symm
      ·exact absurd u1 t4
     exact ⟨{ r with fam:=f },y,by rw[hobj,if_neg e1,if_pos hdB],by rw[hobj,if_neg f1,if_neg hgB];exact t2,by show f=y.fam;omega,hf0,t5⟩
    ·by_cases hgB:g=B
     ·rw[hgB,hget] at t2
      injection t2 with t2
      injection t2 with t2
      subst t2
      have hrf:r.fam=f:=by
       rcases hff with ⟨u1,u2⟩|⟨u1,u2⟩
       ·exact u1.symm
       ·exact absurd u1 (by omega)
      exact ⟨x,{ r with fam:=f },by rw[hobj,if_neg e1,if_neg hdB];exact t1,by rw[hobj,if_neg f1,if_pos hgB],by show x.fam=f;omega,t4,t5⟩
     ·exact ⟨x,y,by rw[hobj,if_neg e1,if_neg hdB];exact t1,by rw[hobj,if_neg f1,if_neg hgB];exact t2,t3,t4,t5⟩
 ·intro d q hq
  rw[hobj] at hq
  by_cases hd:d=h.next
  ·rw[if_pos hd] at hq
   injection hq with hq
   injection hq with hq
   subst hq
   omega
  ·rw[if_neg hd] at hq
   by_cases hdB:d=B
   ·rw[if_pos hdB] at hq
    injection hq with hq
    injection hq with hq
    subst hq
    exact hnf
   ·rw[if_neg hdB] at hq
    have:=H.famlt d q hq
    omega
 ·intro g l m hl hm hg hg0
  by_cases hgf:g=f
  ·subst hgf
   rw[hl1] at hl
   injection hl with hl
   subst hl
   rcases hmem m hm with rfl|⟨_,rfl|⟨l0,h0,h2,h3⟩⟩
   ·exact ⟨q1,by rw[hobj,if_pos rfl],hf,rfl,rfl⟩
   ·exact ⟨{ r with fam:=g },by rw[hobj,if_neg (by show B≠h.next;omega),if_pos rfl],rfl,rfl,rfl⟩
   ·obtain ⟨q,k1,k2,k3,k4⟩:=H.mem g l0 m h0 h3 (by rw[<-h2];exact H.famlt _ _ hget) (by first|exact hf0|omega)
    have hmn:=H.cover _ _ k1
    by_cases hmB:m.b=B
    ·rw[hmB,hget] at k1
     injection k1 with k1
     injection k1 with k1
     subst k1
     exact ⟨{ r with fam:=g },by rw[hobj,if_neg (by omega),if_pos hmB],rfl,k3,k4⟩
    ·exact ⟨q,by rw[hobj,if_neg (by omega),if_neg hmB];exact k1,k2,k3,k4⟩
  ·rw[hfam g hgf] at hl
   obtain ⟨q,k1,k2,k3,k4⟩:=H.mem g l m hl hm (hnf3 g hg hgf) hg0
   have hmn:=H.cover _ _ k1
   by_cases hmB:m.b=B
   ·rw[hmB,hget] at k1
    injection k1 with k1
    injection k1 with k1
    subst k1
    exfalso
    rcases hff with ⟨u1,u2⟩|⟨u1,u2⟩
    ·omega
    ·omega
   ·exact ⟨q,by rw[hobj,if_neg (by omega),if_neg hmB];exact k1,k2,k3,k4⟩
 ·intro d o ho
  rw[hobj] at ho
  rw[hnx]
  by_cases hd:d=h.next
  ·omega
  ·rw[if_neg hd] at ho
   by_cases hdB:d=B
   ·omega
   ·rw[if_neg hdB] at ho
    have:=H.cover d o ho
    omega
 ·rw[hobj] at hq
  rw[hbs]
  by_cases hd:d=h.next
  ·rw[hd];exact H.base_next
  ·rw[if_neg hd] at hq
   by_cases hdB:d=B
   ·rw[hdB];exact H.low _ _ hget
   ·rw[if_neg hdB] at hq
    exact H.low d q hq
 ·rw[hbs] at hb
  rw[hro] at hv
  obtain ⟨v',e1,e2⟩:=H.rom b k v hb hv
  have hlt:=(H.lo b _ (H.rid b hb)).2
  have hge:=hib.1 (H.low _ _ hget)
  have:=H.bn
  refine ⟨v',?_,e2.mono hle⟩
  rw[<-e1]
  unfold World.cell?
  rw[hoth b hlt (by omega)]
end
section
variable {P:Program} {ρ:Rho} {N:Bs} {h:Hp} {w:World} {a:A} {act:Act}
theorem uq (s:ByteArray) (n:Nat):((s.extract 0 n).data.map fun b=>Value.int .u8 b.toNat).toList=(s.data.toList.take n).map fun b=>.int .u8 b.toNat:=by
 rw[nZ]
 simp
theorem ou:∀l:List UInt8,VRs ρ (l.map fun b=>Value.int .u8 b.toNat) (l.map fun b=>Value.int .u8 b.toNat)
 | []=>.nil
 | _::l=>.cons (.int _ _) (ou l)
theorem jo (H:HR P ρ N h w) {size n:Nat} {x x':Value} (hx:VR ρ x x') (hn:∀b len c,x=.slice b len c->n<=len) {l:List Value} (hl:bS h size n x=some l) :
  ∃l':Array Value,(Builtin.firstCells size n x').run P w=.ok l' w/\VRs ρ l l'.toList:=by
 unfold bS at hl
 split at hl
 ·rename_i p m c
  cases hx with
  | @sl _ p' i _ _ c' hp hc =>
    obtain ⟨l',h1,h2,_⟩:=H.loads (.inr ⟨i,hp⟩) hl
    exact ⟨l',by simp[Builtin.firstCells,h1],h2⟩
  | slZero _ p' =>
    have:=hn _ _ _ rfl
    have hz:n*size=0:=by
     have:n=0:=by omega
     rw[this,Nat.zero_mul]
    obtain ⟨l',h1,h2,_⟩:=H.loads (a':=p') (.inl hz) hl
    exact ⟨l',by simp[Builtin.firstCells,h1],h2⟩
 ·cases hx
  injection hl with hl
  subst hl
  exact ⟨#[],by simp[Builtin.firstCells],.nil⟩
 ·rename_i s
  cases hx
  injection hl with hl
  subst hl
  refine ⟨(s.extract 0 n).data.map fun b=>.int .u8 b.toNat,by simp[Builtin.firstCells],?_⟩
  rw[uq]
  exact ou _
 ·cases hl
theorem wS (n c:Nat) (hc:c<=1000000):Builtin.growBy n 4 c<=3000000:=by
 simp only[Builtin.growBy]
 repeat' split
 all_goals omega
theorem CV {n c:Nat} (hn:n<=1000000) (hc:c<n):Builtin.nextslicecap n c<=3000000:=by
 unfold Builtin.nextslicecap
 split
 ·omega
 ·split
  ·omega
  ·exact wS n c (by omega)
theorem Bm {x y:List Value} (hxy:VRs ρ x y) (h:x.all oneCell=true):y.all oneCell=true:=by
 induction x generalizing y with
 | nil=>cases hxy;rfl
 | cons p x ih =>
   cases hxy with
   | cons hp hx =>
     simp only[List.all_cons,Bool.and_eq_true] at h ⊢
     exact ⟨by rw[hp.oneCell];exact h.1,ih hx h.2⟩
structure il (P:Program) (ts:Array TypeId) (e:TypeId) (i:TypeInfo) (z:Value):Prop where
 t:∃t,ts[0]? = some t/\P.underlying t=some (.slice e)
 noInt:ts[1]? = none\/(∃u e,ts[1]? = some u/\P.underlying u=some (.slice e))\/∃u,ts[1]? = some u/\P.underlying u=some .string
 info:P.info? e=some i
 zero:∀w,(zeroValue e).run P w=.ok z w
 zs:z.cells.size=i.size
 s0:0<i.size
 b0:0<i.bytes
 b1:i.bytes<=100000
theorem gy {ts:Array TypeId} {ty e:TypeId} {i:TypeInfo} {z:Value} (K:il P ts e i z) {args:Array Value} {base:Option Addr} {len cap n:Nat} {x:Value}
  (h0:args[0]? = some (.slice base len cap)) (h1:args[1]? = some x) (hn:(Builtin.lenOf x).run P w=.ok n w) {new:Array Value} (hnew:(Builtin.firstCells i.size n x).run P w=.ok new w) (hle:len+n<=cap)
  {w1:World} (hst:∀a,base=some a->(storeCells (a.add (len*i.size)) new.toList).run P w=.ok () w1) (hnil:base=none->w1=w) :
  (Builtin.append_ ts ty args).run P w=.ok (.slice base (len+n) cap) w1:=by
 obtain ⟨t,ht,hu⟩:=K.t
 cases base with
 | none =>
   have:=hnil rfl
   subst this
   rcases K.noInt with h|⟨u,q,h,hq⟩|⟨u,h,hq⟩
   ·simp[Builtin.append_,ht,h0,h1,h,al hu,cC K.info,hn,hle,hnew]
   ·simp[Builtin.append_,ht,h0,h1,h,al hu,al hq,cC K.info,hn,hle,hnew]
   ·simp[Builtin.append_,ht,h0,h1,h,al hu,al hq,cC K.info,hn,hle,hnew]
 | some a =>
   have:=hst a rfl
   rcases K.noInt with h|⟨u,q,h,hq⟩|⟨u,h,hq⟩
   ·simp[Builtin.append_,ht,h0,h1,h,al hu,cC K.info,hn,hle,hnew,this]
   ·simp[Builtin.append_,ht,h0,h1,h,al hu,al hq,cC K.info,hn,hle,hnew,this]
   ·simp[Builtin.append_,ht,h0,h1,h,al hu,al hq,cC K.info,hn,hle,hnew,this]
theorem ov {ts:Array TypeId} {ty e:TypeId} {i:TypeInfo} {z:Value} (K:il P ts e i z) {args:Array Value} {base:Option Addr} {len cap n:Nat} {x:Value}
  (h0:args[0]? = some (.slice base len cap)) (h1:args[1]? = some x) (hn:(Builtin.lenOf x).run P w=.ok n w) {old new:Array Value} (hold:(Builtin.firstCells i.size len (.slice base len cap)).run P w.drew=.ok old w.drew)
  (hnew:(Builtin.firstCells i.size n x).run P w.drew=.ok new w.drew) (hle:¬len+n<=cap) (hbig:len+n<=1000000) :
  ∃newCap,len+n<=newCap/\(Builtin.append_ ts ty args).run P w=.ok (.slice (some ⟨w.heap.size,0,none⟩) (len+n) newCap) (w.drew.alloc (.cells (old++new++Builtin.zeroCells z.cells (newCap - (len+n))) e)):=by
 obtain ⟨t,ht,hu⟩:=K.t
 refine ⟨(Question.appendCap (len+n) cap e).cut (w.tape w.drawn (.appendCap (len+n) cap e)),by simp only[Question.cut];omega,?_⟩
 have c1:¬(((len+n:Nat):Int) > IntKind.i64.max/\(False\/i.bytes=0)):=by
  rintro ⟨_,h|h⟩
  ·exact h
  ·have:=K.b0;omega
 have c2:¬(Builtin.nextslicecap (len+n) cap*i.bytes > 2 ^ 48):=by
  have h1:=CV hbig (show cap<len+n by omega)
  have h2:=K.b1
  have h3:Builtin.nextslicecap (len+n) cap*i.bytes<=3000000*100000:=Nat.mul_le_mul h1 h2
  have h48:(2:Nat) ^ 48=281474976710656:=by decide
  omega
 have c3:i.bytes≠0:=by have:=K.b0;omega
 have c4:¬((2:Nat) ^ 48<Builtin.nextslicecap (len+n) cap*i.bytes):=c2
 have c5:¬(281474976710656<Builtin.nextslicecap (len+n) cap*i.bytes):=c2
 have hz:=K.zero w.drew
 have hsz:w.drew.heap.size=w.heap.size:=rfl
 rcases K.noInt with h|⟨u,q,h,hq⟩|⟨u,h,hq⟩
 ·simp[Builtin.append_,ht,h0,h1,h,al hu,cC K.info,dI K.info,hn,hle,c3,c5,hold,hnew,hz,Question.forced,newRow,dM]
 ·simp[Builtin.append_,ht,h0,h1,h,al hu,al hq,cC K.info,dI K.info,hn,hle,c3,c5,hold,hnew,hz,Question.forced,newRow,dM]
 ·simp[Builtin.append_,ht,h0,h1,h,al hu,al hq,cC K.info,dI K.info,hn,hle,c3,c5,hold,hnew,hz,Question.forced,newRow,dM]
end
section
variable {P:Program} {ρ:Rho} {N:Bs} {h:Hp} {w:World} {a:A} {act:Act}
theorem vj (H:HR P ρ N h w) {e:TypeId} {sz len n:Nat} {p:Addr} {cells:List Value} {r:Row} {v:Value} {h1:Hp} (hg:gH h e sz p len n cells r=some (v,h1))
  {i:Img} {arr:Array Value} {e0:TypeId} {fr:Nat×Nat} (hi:ρ p.block=some i) (hr:h.row p.block=some r) (hw:w.heap[i.b]? = some (.cells arr e0 fr))
  {w1:World} {arr1:Array Value} (hw1:w1.heap[i.b]? = some (.cells arr1 e0 fr)) (hsz:arr1.size=arr.size)
  (hsame:∀k,k<i.s+p.off+len*sz->arr1[k]? = arr[k]?) (hoth:∀k,k<w.heap.size->k≠i.b->w1.heap[k]? = w.heap[k]?) (hgrow:w.heap.size<=w1.heap.size)
  (i1:Img) (o1:Obj) (ho1:w1.heap[i1.b]? = some o1) (hR1:∀f,ObjR P (ρ.put h.next i1) i1 (.cells ⟨cells,e,f,r.base+p.off,true⟩) o1)
  (hi1:(i1.b=i.b/\i1.s=i.s+p.off)\/(w.heap.size<=i1.b/\i1.b<w1.heap.size)) :
  v=.slice (some ⟨h.next,0,none⟩) (len+n) (len+n)/\HR P (ρ.put h.next i1) N h1 w1:=by
 obtain ⟨hget,hfams⟩:=ff hr
 have hBn:p.block<h.next:=H.cover _ _ hget
 have hi1':∀b,b=r.base+p.off->(i1.b=i.b/\i1.s+r.base=i.s+b)\/(w.heap.size<=i1.b/\i1.b<w1.heap.size):=by
  intro b hb
  rcases hi1 with ⟨e1,e2⟩|h
  ·exact .inl ⟨e1,by omega⟩
  ·exact .inr h
 unfold gH at hg
 split at hg
 ·rename_i hf0
  ·injection hg with hg
   injection hg with hg1 hg2
   subst hg1
   subst hg2
   refine ⟨rfl,?_⟩
   refine H.grow hi hr hw (r.base+p.off+len*sz) hw1 hsz (fun k hk=>hsame k (by omega)) hoth hgrow ⟨cells,e,h.nfam,r.base+p.off,true⟩ i1 o1 ho1 (hR1 _) (hi1' _ rfl) h.nfam rfl (.inr ⟨hf0,rfl⟩)
    (fun d => ?_) (l1:=(⟨h.next,r.base+p.off,r.base+p.off+cells.length⟩::ma p.block r.base (r.base+r.c.length) (r.base+p.off+len*sz))) ?_ (fun g hg => ?_) (fun m hm => ?_) rfl rfl rfl (by show h.nfam<h.nfam+1;omega) (by show h.nfam<=h.nfam+1;omega) (fun g hg hne=>by have hg':g<h.nfam+1:=hg;omega)
   ·simp only[]
    rw[Tr.get_put _ _ _ _,Tr.get_put _ _ _ _]
   ·simp only[]
    rw[Tr.get_put _ _ _ _,if_pos rfl]
   ·simp only[]
    rw[Tr.get_put _ _ _ _,if_neg hg]
   ·rcases mCo.1 hm with rfl|hm
    ·exact .inl rfl
    ·unfold ma at hm
     split at hm
     ·rename_i hle
      have hle':r.base+r.c.length<=r.base+p.off+len*sz:=by simpa using hle
      rw[List.mem_singleton] at hm
      subst hm
      exact .inr ⟨hle',.inl rfl⟩
     ·cases hm
 ·rename_i f hf0
  have hfl:=H.famlt _ _ hget
  split at hg
  ·rename_i l hl
   injection hg with hg
   injection hg with hg1 hg2
   subst hg1
   subst hg2
   refine ⟨rfl,?_⟩
   refine H.grow hi hr hw (r.base+p.off+len*sz) hw1 hsz (fun k hk=>hsame k (by omega)) hoth hgrow ⟨cells,e,f+1,r.base+p.off,true⟩ i1 o1 ho1 (hR1 _) (hi1' _ rfl) (f+1) rfl (.inl ⟨hf0.symm,by omega⟩)
    (fun d => ?_) (l1:=(⟨h.next,r.base+p.off,r.base+p.off+cells.length⟩::l.filter fun m=>Nat.ble m.hi (r.base+p.off+len*sz))) ?_ (fun g hg => ?_) (fun m hm => ?_) rfl rfl rfl (by show f+1<h.nfam;omega) (lRf _) (fun g hg hne=>hg)
   ·simp only[]
    rw[Tr.get_put _ _ _ _]
    by_cases hd:d=h.next
    ·rw[if_pos hd,if_pos hd]
    ·rw[if_neg hd,if_neg hd]
     by_cases hdB:d=p.block
     ·rw[if_pos hdB,hdB,hget]
      congr 2
      cases r
      simp only at hf0
      rw[hf0]
     ·rw[if_neg hdB]
   ·simp only[]
    rw[Tr.get_put _ _ _ _,if_pos rfl]
   ·simp only[]
    rw[Tr.get_put _ _ _ _,if_neg hg]
   ·rcases mCo.1 hm with rfl|hm
    ·exact .inl rfl
    ·rw[List.mem_filter] at hm
     have:m.hi<=r.base+p.off+len*sz:=by simpa using hm.2
     exact .inr ⟨this,.inr ⟨l,hl,hf0,hm.1⟩⟩
  ·cases hg
theorem iT (z:Array Value) (n:Nat):(Builtin.zeroCells z n).size=n*z.size:=by simp[Builtin.zeroCells]
theorem kJ (ρ:Rho) (b:Nat) (i:Img):(ρ.put b i) b=some i:=by simp[Rho.put]
theorem Bn (H:HR P ρ N h w) {ts:Array TypeId} {ty e:TypeId} {i:TypeInfo} {z:Value} (K:il P ts e i z) {args:Array Value} {base:Option Addr} {len cap n:Nat} {s' x x':Value} {new:List Value}
  (h0:args[0]? = some s') (h1':args[1]? = some x') (hs:VR ρ (.slice base len cap) s') (hx:VR ρ x x') (hn:d7 x=some n) (hnew:bS h i.size n x=some new) (hone:new.all oneCell=true) (hnl:new.length=n*i.size)
  (hlc:len<=cap) (hbig:len+n<=1000000) {v:Value} {h1:Hp} (hv:apd h e i.size base len cap n new=some (v,h1)) :
  ∃ ρ1 w1 v',ρ.le ρ1/\(Builtin.append_ ts ty args).run P w=.ok v' w1/\VR ρ1 v v'/\HR P ρ1 N h1 w1/\Below N w w1:=by
 have hnr:=pG (P:=P) (w:=w) hx hn
 have hfirst:∀b len c,x=.slice b len c->n<=len:=by
  intro b len c e
  subst e
  simp only[d7,Option.some.injEq] at hn
  omega
 unfold apd at hv
 split at hv
 ·rename_i hle
  have hle':len+n<=cap:=by simpa using hle
  obtain ⟨new',f1,f2⟩:=jo H hx hfirst hnew
  split at hv
  ·injection hv with hv
   injection hv with hv1 hv2
   subst hv1
   subst hv2
   cases hs
   exact ⟨ρ,w,_,Rho.le_refl ρ,gy K h0 h1' hnr f1 (by omega) (w1:=w) (fun _ e=>by cases e) (fun _=>rfl),by
    have:n=0:=by omega
    subst this
    exact .slNil,H,Below.refl _ _⟩
  ·rename_i p
   split at hv
   ·rename_i h2 hst
    injection hv with hv
    injection hv with hv1 hv2
    subst hv1
    subst hv2
    cases hs with
    | @sl _ p' j _ _ c' hp hc =>
      obtain ⟨w1,r1,r2,r3⟩:=H.stores (P:=P) (.inr ⟨j,hp.add _⟩) f2 hst
      have hcc:cap<=c':=by rcases hc with h|h<;>omega
      exact ⟨ρ,w1,_,Rho.le_refl ρ,gy K h0 h1' hnr f1 (by omega) (w1:=w1) (fun q e=>by injection e with e;subst e;exact r1) (fun e=>by cases e),.sl hp hc,r2,r3⟩
    | slZero p p' hz =>
      have hn0:n=0:=by omega
      subst hn0
      have hnil:new=[]:=by
       cases new with
       | nil=>rfl
       | cons y l=>simp at hnl
      subst hnil
      obtain ⟨w1,r1,r2,r3⟩:=H.stores (P:=P) (a':=p'.add (0*i.size)) (.inl rfl) f2 hst
      exact ⟨ρ,w1,_,Rho.le_refl ρ,gy K h0 h1' hnr f1 (by omega) (w1:=w1) (fun q e=>by injection e with e;subst e;exact r1) (fun e=>by cases e),.slZero _ _ hz,r2,r3⟩
   ·cases hv
 ·rename_i hle
  have hle':¬len+n<=cap:=by
   intro hh
   rw[show Nat.ble (len+n) cap=true by rw[Nat.ble_eq];exact hh] at hle
   cases hle
  have H2:HR P ρ N h w.drew:=H.drewn _
  obtain ⟨new',f1,f2⟩:=jo (w:=w.drew) H2 hx hfirst hnew
  have hnl':new'.size=n*i.size:=by rw[eq f2];exact hnl
  have hB2:Below N w w.drew:=(Below.refl _ _).drew
  split at hv
  ·split at hv
   ·split at hv
    ·rename_i p h2 hgr
     injection hv with hv
     injection hv with hv1 hv2
     subst hv1
     subst hv2
     cases hs
     obtain ⟨newCap,c1,c2⟩:=ov (P:=P) (w:=w) (ty:=ty) (old:=#[]) K h0 h1' hnr (by simp[Builtin.firstCells]) f1 hle' hbig
     unfold Hp.grownRow at hgr
     split at hgr
     ·rename_i b h3 hnw
      injection hgr with hgr
      injection hgr with hg1 hg2
      subst hg1
      subst hg2
      have hb:=kH hnw
      subst hb
      generalize harr:(#[]++new'++Builtin.zeroCells z.cells (newCap - (0+n)))=arr at c2
      have hasz:arr.size=newCap*i.size:=by
       rw[<-harr,Array.size_append,iT,K.zs]
       simp only[Array.empty_append,hnl']
       rw[<-Nat.add_mul]
       congr 1
       omega
      have hle3:=H2.le_put ⟨w.heap.size,0,arr.size,i.size,false⟩
      have hR:ObjR P (ρ.put h.next ⟨w.heap.size,0,arr.size,i.size,false⟩) ⟨w.heap.size,0,arr.size,i.size,false⟩ (.cells ⟨new,e,0,0,true⟩) (.cells arr e):=by
       refine ⟨rfl,?_,by simp,fun k v hk => ?_,fun k _=>by simp,fun hx=>(by cases hx),fun _=>by simp[Program.cellsOf,K.info]⟩
       ·simp only[hnl,hasz,Nat.zero_add]
        exact Nat.mul_le_mul_right _ (by omega)
       ·obtain ⟨v',g1,g2⟩:=f2.get hk
        refine ⟨v',?_,g2.mono hle3⟩
        have hlt:k<new'.size:=by
         rcases Nat.lt_or_ge k new'.size with h|h
         ·exact h
         ·rw[List.getElem?_eq_none (by simpa using h)] at g1;cases g1
        simp only[Nat.zero_add]
        rw[<-harr,Array.empty_append,Array.getElem?_append_left hlt]
        simpa using g1
      obtain ⟨_,g3,g4⟩:=H2.new hnw ⟨w.heap.size,0,arr.size,i.size,false⟩ rfl hR (fun r hr=>by injection hr with hr;subst hr;rfl)
      refine ⟨_,_,_,hle3,c2,?_,g3,hB2.trans g4⟩
      have hv2:VR (ρ.put h.next ⟨w.heap.size,0,arr.size,i.size,false⟩) (.slice (some ⟨h.next,0,none⟩) n n) (.slice (some ⟨w.heap.size,0,none⟩) n newCap) :=
       .sl (i:=⟨w.heap.size,0,arr.size,i.size,false⟩) ⟨rfl,kJ _ _ _,by simp⟩ (.inr ⟨rfl,by omega,by simp[hasz]⟩)
      simpa using hv2
     ·cases hgr
    ·cases hv
   ·cases hv
  ·rename_i p
   split at hv
   ·rename_i r old hr hold
    split at hv
    ·rename_i hre
     have hre':r.e=e:=aF hre
     have way2:∀(p':Addr) (c':Nat) (j:Img),s'=.slice (some p') len c'->ρ p.block=some j->(len=0\/AR ρ p p' j)->¬len+n<=c' ->
       ∃ ρ1 w1 v',ρ.le ρ1/\(Builtin.append_ ts ty args).run P w=.ok v' w1/\VR ρ1 v v'/\HR P ρ1 N h1 w1/\Below N w w1:=by
      intro p' c' j es hj hpj hnc
      subst es
      obtain ⟨arr0,e0,fr,hw,hR0,hget⟩:=H2.row hr hj
      obtain ⟨old',g1,g2,g3⟩:=H2.loads (a':=p') (n:=len*i.size) (by
       rcases hpj with h|h
       ·exact .inl (by rw[h,Nat.zero_mul])
       ·exact .inr ⟨j,h⟩) hold
      obtain ⟨newCap,c1,c2⟩:=ov (P:=P) (w:=w) (ty:=ty) (old:=old') K h0 h1' hnr (by simp[Builtin.firstCells,g1]) f1 hnc hbig
      have hol:old'.size=len*i.size:=by rw[eq g2];exact g3
      generalize harr:(old'++new'++Builtin.zeroCells z.cells (newCap - (len+n)))=arr at c2
      have hasz:arr.size=newCap*i.size:=by
       rw[<-harr,Array.size_append,Array.size_append,iT,K.zs,hol,hnl',<-Nat.add_mul,<-Nat.add_mul]
       congr 1
       omega
      let i1:Img:=⟨w.heap.size,0,arr.size,i.size,false⟩
      have hle3:=H2.le_put i1
      have hjlt:=(H2.lo _ j hj).2
      have hpush:∀k,k<w.drew.heap.size->(w.drew.alloc (.cells arr e)).heap[k]? = w.drew.heap[k]? := fun k hk=>Below.heap_alloc _ _ k hk
      have hR1:∀f,ObjR P (ρ.put h.next i1) i1 (.cells ⟨old++new,e,f,r.base+p.off,true⟩) (.cells arr e):=by
       intro f
       refine ⟨rfl,?_,by simp[i1],fun k v hk => ?_,fun k _=>by simp,fun hx=>(by cases hx),fun _=>by simp[Program.cellsOf,K.info,i1]⟩
       ·simp only[List.length_append,g3,hnl,hasz,i1,Nat.zero_add]
        rw[<-Nat.add_mul]
        exact Nat.mul_le_mul_right _ (by omega)
       ·obtain ⟨v',k1,k2⟩:=(g2.append f2).get hk
        refine ⟨v',?_,k2.mono hle3⟩
        have hlt:k<(old'++new').size:=by
         rcases Nat.lt_or_ge k (old'++new').size with h|h
         ·exact h
         ·rw[List.getElem?_eq_none (by simpa using h)] at k1;cases k1
        simp only[i1,Nat.zero_add]
        rw[<-harr,Array.getElem?_append_left hlt]
        rw[<-Array.getElem?_toList,Array.toList_append]
        exact k1
      have hBA:Below N w.drew (w.drew.alloc (.cells arr e)):=(Below.refl _ _).alloc H2.base _
      obtain ⟨rfl,g5⟩:=vj H2 hv hj hr hw (w1:=w.drew.alloc (.cells arr e)) (arr1:=arr0) (by rw[hpush _ hjlt];exact hw) rfl (fun _ _=>rfl) (fun k hk _=>hpush k hk) hBA.size i1 (.cells arr e)
       (by show (w.drew.heap.push (.cells arr e))[w.heap.size]? = _;exact Array.getElem?_push_size) hR1 (.inr ⟨lRf _,by show w.heap.size<(w.drew.heap.push _).size;rw[Array.size_push];exact lSs _⟩)
      refine ⟨_,_,_,hle3,c2,?_,g5,hB2.trans hBA⟩
      refine .sl (i:=i1) ⟨rfl,kJ _ _ _,by simp[i1]⟩ (.inr ⟨rfl,by omega,?_⟩)
      simp[hasz,i1]
     cases hs with
     | @sl _ p' j _ _ c' hp hc =>
       by_cases hc':len+n<=c'
       ·
         obtain ⟨hex,hcc,hm⟩:j.ex=false/\cap<=c'/\p.off+c'*j.z<=j.m:=by
          rcases hc with rfl|h
          ·exact absurd hc' hle'
          ·exact h
         obtain ⟨new1,q1,q2⟩:=jo (w:=w) H hx hfirst hnew
         obtain ⟨arr,e0,fr,hw,hR0,hget⟩:=H.row hr hp.2.1
         obtain ⟨old',g1,g2,g3⟩:=H.loads (.inr ⟨j,hp⟩) hold
         have hjz:j.z=i.size:=by
          have:=hR0.2.2.2.2.2.2 hex
          rw[hre'] at this
          rw[<-this]
          simp[Program.cellsOf,K.info]
         have hnl1:new1.size=n*i.size:=by rw[eq q2];exact hnl
         have hmul:(len+n)*i.size<=c'*i.size:=Nat.mul_le_mul_right _ hc'
         have hin:j.s+(p.off+len*i.size)+new1.toList.length<=arr.size:=by
          have h1:=hR0.2.2.1
          have h2:=hR0.2.1
          rw[Array.length_toList,hnl1]
          rw[Nat.add_mul] at hmul
          rw[hjz] at hm
          omega
         have hrun:=eD (P:=P) (b:=j.b) (e:=e0) (fr:=fr) (j.s+(p.off+len*i.size)) new1.toList 0 w arr hw hR0.2.2.2.2.1 (by omega) (Bm q2 hone)
         rw[Nat.add_zero] at hrun
         have hadd:p'.add (len*i.size)=⟨j.b,j.s+(p.off+len*i.size),none⟩:=by
          have:=(hp.add (len*i.size)).fn
          rw[mT] at this
          exact this
         rw[<-hadd] at hrun
         have hlo:=H.lo _ j hp.2.1
         let w1:=World.putBlock w j.b (.cells (over arr (j.s+(p.off+len*i.size)) new1.toList) e0 fr)
         let i1:Img:=⟨j.b,j.s+p.off,j.m - p.off,i.size,false⟩
         have hle3:=H.le_put i1
         have hw1:w1.heap[j.b]? = some (.cells (over arr (j.s+(p.off+len*i.size)) new1.toList) e0 fr):=by
          show (World.putBlock w j.b _).heap[j.b]? = _
          rw[cT _ _ _ _ hlo.2,if_pos rfl]
         have hR1:∀f,ObjR P (ρ.put h.next i1) i1 (.cells ⟨old++new,e,f,r.base+p.off,true⟩) (.cells (over arr (j.s+(p.off+len*i.size)) new1.toList) e0 fr):=by
          intro f
          refine ⟨by rw[hR0.1,hre'],?_,?_,fun k v hk => ?_,by rw[cO];exact hR0.2.2.2.2.1,fun hx=>(by cases hx),fun _=>by simp[Program.cellsOf,K.info,i1]⟩
          ·simp only[cO,List.length_append,g3,hnl,i1]
           rw[Array.length_toList,hnl1] at hin
           omega
          ·simp only[cO,i1]
           have:=hR0.2.2.1
           omega
          ·simp only[i1]
           rw[fQ _ _ _ hin]
           have hkl:k<(old++new).length:=by
            rcases Nat.lt_or_ge k (old++new).length with h|h
            ·exact h
            ·have hk':(old++new)[k]? = some v:=hk
             rw[List.getElem?_eq_none h] at hk';cases hk'
           rw[List.length_append,g3,hnl] at hkl
           by_cases hko:k<len*i.size
           ·have hk':old[k]? = some v:=by
             have hk2:(old++new)[k]? = some v:=hk
             rwa[List.getElem?_append_left (by rw[g3];exact hko)] at hk2
            rw[if_neg (by omega)]
            have hkc:r.c[p.off+k]? = some v:=by
             have hz:len*i.size≠0:=by omega
             cases hq:len*i.size with
             | zero=>exact absurd hq hz
             | succ q =>
               rw[hq] at hold
               simp only[Hp.loads] at hold
               rw[hp.1] at hold
               have hnb:Nat.blt p.block h.base=false:=by
                have:=H.low _ _ hget
                cases hx:Nat.blt p.block h.base with
                | false=>rfl
                | true =>
                 have:p.block<h.base:=by simpa using hx
                 omega
               simp only[hr,hnb] at hold
               obtain ⟨t1,_⟩:=j3 _ _ _ hold
               rw[t1,List.getElem?_take] at hk'
               split at hk'
               ·simpa using hk'
               ·cases hk'
            obtain ⟨v',t1,t2⟩:=hR0.2.2.2.1 _ _ hkc
            exact ⟨v',by rw[<-t1];congr 1;omega,t2.mono hle3⟩
           ·have hk':new[k - len*i.size]? = some v:=by
             have hk2:(old++new)[k]? = some v:=hk
             rwa[List.getElem?_append_right (by rw[g3];omega),g3] at hk2
            obtain ⟨v',t1,t2⟩:=q2.get hk'
            rw[if_pos (by rw[Array.length_toList,hnl1];omega)]
            exact ⟨v',by rw[<-t1];congr 1;omega,t2.mono hle3⟩
         obtain ⟨rfl,g5⟩:=vj H hv hp.2.1 hr hw (w1:=w1) hw1 (by rw[cO]) (fun k hk=>by rw[fQ _ _ _ hin,if_neg (by omega)]) (fun k hk hne=>by
          show (World.putBlock w j.b _).heap[k]? = _
          rw[cT _ _ _ _ hlo.2,if_neg hne]) (by show _<=(World.putBlock w j.b _).heap.size;rw[dy];exact lRf _) i1 _ hw1 hR1 (.inl ⟨rfl,rfl⟩)
         refine ⟨_,w1,_,hle3,gy K h0 h1' hnr q1 hc' (w1:=w1) (fun q e=>by injection e with e;subst e;exact hrun) (fun e=>by cases e),?_,g5,jj (hlo.1 (H.low _ _ hget))⟩
         refine .sl (i:=i1) ⟨rfl,kJ _ _ _,by rw[hp.fn];simp[i1]⟩ (.inr ⟨rfl,by omega,?_⟩)
         simp only[i1]
         rw[hjz] at hm
         omega
       ·exact way2 p' c' j rfl hp.2.1 (.inr hp) hc'
     | @slZero p p' j hj =>
       exact way2 p' 0 j rfl hj (.inl rfl) (by omega)
    ·cases hv
   ·cases hv
end
section
variable {P:Program} {ρ:Rho} {N:Bs} {h:Hp} {w:World} {a:A} {act:Act}
theorem ow {l:List Value} {l':Array Value} (hl:VRs ρ l l'.toList) {x y:Value} {r:List Value} (e:l=x::y::r):∃x' y',l'[0]? = some x'/\l'[1]? = some y'/\VR ρ x x'/\VR ρ y y':=by
 subst e
 obtain ⟨x',r1,e1,hx,hr⟩:=hl.cons_inv
 obtain ⟨y',r2,e2,hy,_⟩:=hr.cons_inv
 refine ⟨x',y',?_,?_,hx,hy⟩
 ·rw[<-Array.getElem?_toList,e1];rfl
 ·rw[<-Array.getElem?_toList,e1,e2];rfl
theorem ur (H:HR P ρ N h w) {ts:Array TypeId} {ty:TypeId} {l:List Value} {l':Array Value} (hl:VRs ρ l l'.toList) {v:Value} {h1:Hp} (hv:bt P h ts.toList l=some (v,h1)) :
  ∃ ρ1 w1 v',ρ.le ρ1/\(Builtin.append_ ts ty l').run P w=.ok v' w1/\VR ρ1 v v'/\HR P ρ1 N h1 w1/\Below N w w1:=by
 unfold bt at hv
 split at hv
 ·rename_i t xt base len cap x rest ht
  obtain ⟨s',x',a0,a1,hs,hx⟩:=ow hl rfl
  have ht0:ts[0]? = some t:=by rw[<-Array.getElem?_toList,ht];rfl
  split at hv
  ·rename_i e hu hni
   split at hv
   ·rename_i i z hi hz
    split at hv
    ·rename_i c1 c2 c3 c4
     split at hv
     ·rename_i n hn
      split at hv
      ·rename_i new hnew hbig hlc
       split at hv
       ·rename_i hone hnl
        have K:il P ts e i z:=by
         refine ⟨⟨t,ht0,hu⟩,?_,hi,fun w=>(eF (w:=w) (ρ:=ρ) hz).1,by rw[<-Array.length_toList];exact aF c1,by simpa[Nat.blt_eq] using c2,by simpa[Nat.blt_eq] using c4,by simpa using c3⟩
         cases xt with
         | nil=>left;rw[<-Array.getElem?_toList,ht];rfl
         | cons u r =>
           right
           have hu1:ts[1]? = some u:=by rw[<-Array.getElem?_toList,ht];rfl
           simp only[Go.Ev.noInt] at hni
           split at hni
           ·rename_i e2 hq
            exact .inl ⟨u,e2,hu1,hq⟩
           ·rename_i hq
            exact .inr ⟨u,hu1,hq⟩
           ·cases hni
        exact Bn H K a0 a1 hs hx hn hnew hone (aF hnl) (by simpa using hlc) (by simpa using hbig) hv
       ·cases hv
      ·cases hv
     ·cases hv
    ·cases hv
   ·cases hv
  ·cases hv
 ·cases hv
theorem yM (H:HR P ρ N h w) {ts:Array TypeId} {ty:TypeId} {l:List Value} {l':Array Value} (hl:VRs ρ l l'.toList) {v:Value} {h1:Hp} (hv:xP P h ts.toList l=some (v,h1)) :
  ∃ ρ1 w1 v',ρ.le ρ1/\(Builtin.copy_ ts ty l').run P w=.ok v' w1/\VR ρ1 v v'/\HR P ρ1 N h1 w1/\Below N w w1:=by
 unfold xP at hv
 split at hv
 ·rename_i t xt d s rest ht
  obtain ⟨d',s',a0,a1,hd,hs⟩:=ow hl rfl
  have ht0:ts[0]? = some t:=by rw[<-Array.getElem?_toList,ht];rfl
  split at hv
  ·rename_i e base dl dc sl hu hsl
   split at hv
   ·rename_i z hz
    split at hv
    ·rename_i cs hcs
     obtain ⟨hzr,_⟩:=cP (w:=w) hz
     have hlen:=pG (P:=P) (w:=w) hs hsl
     obtain ⟨cs',f1,f2⟩:=jo H hs (fun b len c e=>by
      subst e
      simp only[d7,Option.some.injEq] at hsl
      rw[hsl]
      exact Nat.min_le_left _ _) hcs
     split at hv
     ·injection hv with hv
      injection hv with hv1 hv2
      subst hv1;subst hv2
      cases hd
      refine ⟨ρ,w,_,Rho.le_refl ρ,?_,.int _ _,H,Below.refl _ _⟩
      simp only[Builtin.copy_,ht0,a0,a1,Sem.run_bind,al hu,Result.andThen_ok,hlen,hzr,f1,Sem.run_pure]
      rfl
     ·rename_i p
      split at hv
      ·rename_i h2 hst
       injection hv with hv
       injection hv with hv1 hv2
       subst hv1;subst hv2
       have fin:∀p' c' w1,d'=.slice (some p') dl c'->(storeCells p' cs'.toList).run P w=.ok () w1->HR P ρ N h2 w1->Below N w w1 ->
         ∃ ρ1 w1 v',ρ.le ρ1/\(Builtin.copy_ ts ty l').run P w=.ok v' w1/\VR ρ1 (.int .i64 (Nat.min sl dl:Nat)) v'/\HR P ρ1 N h2 w1/\Below N w w1:=by
        intro p' c' w1 e r1 r2 r3
        subst e
        refine ⟨ρ,w1,_,Rho.le_refl ρ,?_,.int _ _,r2,r3⟩
        simp only[Builtin.copy_,ht0,a0,a1,Sem.run_bind,al hu,Result.andThen_ok,hlen,hzr,f1,r1,Sem.run_pure]
        rfl
       cases hd with
       | @sl _ p' j _ _ c' hp hc =>
         obtain ⟨w1,r1,r2,r3⟩:=H.stores (P:=P) (.inr ⟨j,hp⟩) f2 hst
         exact fin _ _ w1 rfl r1 r2 r3
       | slZero p p' =>
         have hnil:cs=[]:=by
          have hm:Nat.min sl 0=0:=Nat.min_zero _
          rw[hm] at hcs
          unfold bS at hcs
          split at hcs
          ·rw[Nat.zero_mul] at hcs
           simp only[Hp.loads,Option.some.injEq] at hcs
           exact hcs.symm
          ·injection hcs with hcs;exact hcs.symm
          ·injection hcs with hcs;simpa using hcs.symm
          ·cases hcs
         subst hnil
         obtain ⟨w1,r1,r2,r3⟩:=H.stores (P:=P) (a':=p') (.inl rfl) f2 hst
         exact fin _ _ w1 rfl r1 r2 r3
      ·cases hv
    ·cases hv
   ·cases hv
  ·cases hv
 ·cases hv
theorem Bo {l:List Value} {l':Array Value} (hl:VRs ρ l l'.toList) {x:Value} {r:List Value} (e:l=x::r):∃x',l'[0]? = some x'/\VR ρ x x':=by
 subst e
 obtain ⟨x',r1,e1,hx,hr⟩:=hl.cons_inv
 exact ⟨x',by rw[<-Array.getElem?_toList,e1];rfl,hx⟩
theorem kK:∀n:Nat,aC [] n=[]
 | 0=>rfl
 | n+1=>by simp only[aC,kK n,List.append_nil]
theorem lL (z:Array Value) (n:Nat):(Builtin.zeroCells z n).toList=aC z.toList n:=by
 rcases Nat.eq_zero_or_pos z.size with hz|hz
 ·have:z=#[]:=Array.eq_empty_of_size_eq_zero hz
  subst this
  rw[kK]
  simp[Builtin.zeroCells]
 ·rw[<-ie z hz n]
  rfl
theorem wT (H:HR P ρ N h w) {ts:Array TypeId} {ty:TypeId} {l:List Value} {l':Array Value} (hl:VRs ρ l l'.toList) {v:Value} {h1:Hp} (hv:ny P h ts.toList l=some (v,h1)) :
  ∃ ρ1 w1 v',ρ.le ρ1/\(Builtin.clear_ ts ty l').run P w=.ok v' w1/\VR ρ1 v v'/\HR P ρ1 N h1 w1/\Below N w w1:=by
 unfold ny at hv
 split at hv
 ·rename_i t xt x rest ht
  obtain ⟨x',a0,hx⟩:=Bo hl rfl
  have ht0:ts[0]? = some t:=by rw[<-Array.getElem?_toList,ht];rfl
  split at hv
  ·rename_i e base n c hu
   split at hv
   ·injection hv with hv
    injection hv with hv1 hv2
    subst hv1;subst hv2
    cases hx
    refine ⟨ρ,w,_,Rho.le_refl ρ,?_,.tuple (c:=#[]) (c':=#[]) .nil,H,Below.refl _ _⟩
    simp[Builtin.clear_,ht0,a0,al hu]
   ·rename_i p
    split at hv
    ·injection hv with hv
     injection hv with hv1 hv2
     subst hv1;subst hv2
     refine ⟨ρ,w,_,Rho.le_refl ρ,?_,.tuple (c:=#[]) (c':=#[]) .nil,H,Below.refl _ _⟩
     cases hx<;>simp[Builtin.clear_,ht0,a0,al hu]
    ·rename_i m
     split at hv
     ·rename_i z hz
      split at hv
      ·rename_i h2 hst
       injection hv with hv
       injection hv with hv1 hv2
       subst hv1;subst hv2
       obtain ⟨hzr,hzv⟩:=eF (w:=w) (ρ:=ρ) hz
       generalize hm:m+1=n at hx hst
       cases hx with
       | @sl _ p' j _ _ c' hp hc =>
         have hvs:VRs ρ (aC z.cells.toList n) (Builtin.zeroCells z.cells n).toList:=by
          rw[lL]
          exact ig hzv.cells n
         obtain ⟨w1,r1,r2,r3⟩:=H.stores (P:=P) (.inr ⟨j,hp⟩) hvs hst
         refine ⟨ρ,w1,_,Rho.le_refl ρ,?_,.tuple (c:=#[]) (c':=#[]) .nil,r2,r3⟩
         subst hm
         simp[Builtin.clear_,ht0,a0,al hu,hzr,r1]
      ·cases hv
     ·cases hv
  ·cases hv
 ·cases hv
theorem mz:∀{l l':List Value},VRs ρ l l'->∀{bs:List UInt8},kl l=some bs->∃xs:List Int,l'=xs.map (Value.int .u8)/\bs=xs.map fun n=>UInt8.ofNat n.toNat
 | _,_,.nil,bs,hb=>by
   simp only[kl,Option.some.injEq] at hb
   subst hb
   exact ⟨[],rfl,rfl⟩
 | _,_,.cons hv hl,bs,hb=>by
   unfold kl at hb
   split at hb
   ·rename_i e;cases e
   ·rename_i n r e
    injection e with e1 e2
    subst e1;subst e2
    cases hv
    split at hb
    ·rename_i br hbr
     injection hb with hb
     subst hb
     obtain ⟨xs,e1,e2⟩:=mz hl hbr
     exact ⟨n::xs,by rw[e1];rfl,by rw[e2];rfl⟩
    ·cases hb
   ·cases hb
theorem sB (H:HR P ρ N h w) {src dst:TypeId} {x x':Value} (hx:VR ρ x x') {v:Value} {h1:Hp} (hv:nu P h src dst x=some (v,h1)) :
  ∃ ρ1 w1 v',ρ.le ρ1/\(convert src dst x').run P w=.ok v' w1/\VR ρ1 v v'/\HR P ρ1 N h1 w1/\Below N w w1:=by
 unfold nu at hv
 split at hv
 ·rename_i q k k2 n hs hd
  cases hx
  injection hv with hv
  injection hv with hv1 hv2
  subst hv1;subst hv2
  refine ⟨ρ,w,_,Rho.le_refl ρ,?_,.int _ _,H,Below.refl _ _⟩
  simp[convert,al hs,al hd,Conv.intToInt]
 ·rename_i q s hs hd
  cases hx
  injection hv with hv
  injection hv with hv1 hv2
  subst hv1;subst hv2
  refine ⟨ρ,w,_,Rho.le_refl ρ,?_,.string _,H,Below.refl _ _⟩
  simp[convert,al hs,al hd]
 ·rename_i q e s hs hd
  cases hx
  split at hv
  ·rename_i he
   split at hv
   ·rename_i hlen hsz
    split at hv
    ·rename_i p h2 hgr
     injection hv with hv
     injection hv with hv1 hv2
     subst hv1;subst hv2
     obtain ⟨_,hcz⟩:=cP (w:=w) hsz
     unfold Hp.grownRow at hgr
     split at hgr
     ·rename_i b h3 hnw
      injection hgr with hgr
      injection hgr with hg1 hg2
      subst hg1;subst hg2
      have hb:=kH hnw
      subst hb
      have H2:HR P ρ N h w.drew:=H.drewn _
      have hB2:Below N w w.drew:=(Below.refl _ _).drew
      let cap:=(Question.appendCap s.size 0 e).cut (w.tape w.drawn (.appendCap s.size 0 e))
      have hcap:s.size<=cap:=by simp only[cap,Question.cut];omega
      let arr:Array Value:=s.data.map (fun b=>Value.int .u8 b.toNat)++Array.replicate (cap - s.size) (.int .u8 0)
      have hasz:arr.size=cap:=by
       simp only[arr,Array.size_append,Array.size_map,Array.size_replicate]
       have:s.data.size=s.size:=rfl
       omega
      let i1:Img:=⟨w.heap.size,0,arr.size,1,false⟩
      have hle3:=H2.le_put i1
      have hR:ObjR P (ρ.put h.next i1) i1 (.cells ⟨s.data.toList.map fun b=>.int .u8 b.toNat,e,0,0,true⟩) (.cells arr e (arr.size,arr.size+1)):=by
       refine ⟨rfl,?_,by simp[i1],fun k v hk => ?_,fun k hk => ?_,fun hx=>(by cases hx),fun _=>hcz⟩
       ·simp only[i1,List.length_map,Nat.zero_add,hasz]
        rw[<-eW]
        exact hcap
       ·have hk':(s.data.toList.map fun b=>Value.int .u8 (b.toNat:Int))[k]? = some v:=hk
        have hkl:k<s.data.size:=by
         rcases Nat.lt_or_ge k s.data.size with h|h
         ·exact h
         ·rw[List.getElem?_eq_none (by simpa using h)] at hk';cases hk'
        obtain ⟨v',g1,g2⟩:=(ou (ρ:=ρ.put h.next i1) s.data.toList).get hk'
        refine ⟨v',?_,g2⟩
        simp only[i1,Nat.zero_add,arr]
        rw[Array.getElem?_append_left (by simpa using hkl)]
        rw[<-Array.getElem?_toList,Array.toList_map]
        exact g1
       ·simp
        omega
      obtain ⟨_,g3,g4⟩:=H2.new hnw i1 rfl hR (fun r hr=>by injection hr with hr;subst hr;rfl)
      have hfz:(w.drew.alloc (.cells arr e)).freeze ⟨w.heap.size,arr.size,none⟩ 1=w.drew.alloc (.cells arr e (arr.size,arr.size+1)):=by
       unfold World.freeze
       simp only[Nat.one_ne_zero,if_false]
       show World.mk _ _ _ _ _=World.mk _ _ _ _ _
       congr 1
       show (w.heap.push (.cells arr e)).modify w.heap.size _=w.heap.push (.cells arr e (arr.size,arr.size+1))
       apply Array.ext
       ·simp
       ·intro k k1 k2
        rw[Array.getElem_modify]
        by_cases hk:w.heap.size=k
        ·subst hk
         simp
        ·rw[if_neg hk]
         have:k<w.heap.size:=by simp at k2;omega
         rw[Array.getElem_push_lt this,Array.getElem_push_lt this]
      have hshape:(w.drew.alloc (.cells arr e)).shape? w.heap.size=some (e,arr.size):=by
       refine nT (fr:=(0,0)) ?_
       show (w.heap.push (.cells arr e))[w.heap.size]? = _
       exact Array.getElem?_push_size
      refine ⟨_,_,.slice (some ⟨w.heap.size,0,none⟩) s.size cap,hle3,?_,?_,g3,hB2.trans g4⟩
      ·have hrow:(newRow e arr).run P w.drew=.ok ⟨w.heap.size,0,none⟩ (w.drew.alloc (.cells arr e)):=rfl
       simp[convert,al hs,al hd,al he,Conv.stringToBytes,Question.forced]
       have hrow':(newRow e (s.data.map (fun b=>Value.int .u8 b.toNat)++Array.replicate ((Question.appendCap s.size 0 e).cut (w.tape w.drawn (.appendCap s.size 0 e)) - s.size) (.int .u8 0))).run P w.drew=.ok ⟨w.heap.size,0,none⟩ (w.drew.alloc (.cells arr e)):=rfl
       rw[hrow']
       simp only[Result.andThen_ok,markStringish,Sem.run_bind,run_shape,hshape,run_freeze,Sem.run_pure,hfz,cap]
      ·rw[<-eW]
       exact .sl (i:=i1) ⟨rfl,kJ _ _ _,by simp[i1]⟩ (.inr ⟨rfl,hcap,by simp[i1,hasz]⟩)
     ·cases hgr
    ·cases hv
   ·cases hv
  ·cases hv
 ·rename_i e m c hs hd
  split at hv
  ·rename_i he
   injection hv with hv
   injection hv with hv1 hv2
   subst hv1;subst hv2
   cases hx
   refine ⟨ρ,w,_,Rho.le_refl ρ,run_convert_bytes_nil w src e hs he _ _ dst hd,?_,H,Below.refl _ _⟩
   exact .string _
  ·cases hv
 ·rename_i e p n c hs hd
  split at hv
  ·rename_i he
   split at hv
   ·rename_i l hl
    split at hv
    ·rename_i bs hbs
     injection hv with hv
     injection hv with hv1 hv2
     subst hv1;subst hv2
     have fin:∀p' c',(n=0\/∃i,AR ρ p p' i)->x'=.slice (some p') n c'->∃ ρ1 w1 v',ρ.le ρ1/\(convert src dst x').run P w=.ok v' w1/\VR ρ1 (.string ⟨bs.toArray⟩) v'/\HR P ρ1 N h w1/\Below N w w1:=by
      intro p' c' ha e0
      subst e0
      obtain ⟨l',g1,g2,g3⟩:=H.loads ha hl
      obtain ⟨xs,e1,e2⟩:=mz g2 hbs
      have hl':l'=(xs.map (Value.int .u8)).toArray:=by
       apply Array.ext'
       rw[e1]
      rw[hl'] at g1
      refine ⟨ρ,w,.string ⟨bs.toArray⟩,Rho.le_refl ρ,?_,.string _,H,Below.refl _ _⟩
      rw[run_convert_bytes_string w src dst e _ n c' hs he hd,run_bytesToString w _ n c' xs g1,foldl_push_bytes,e2]
      congr 2
      simp[ByteArray.empty,ByteArray.emptyWithCapacity]
      rfl
     cases hx with
     | sl hp hc=>exact fin _ _ (.inr ⟨_,hp⟩) rfl
     | slZero=>exact fin _ _ (.inl rfl) rfl
    ·cases hv
   ·cases hv
  ·cases hv
 ·cases hv
theorem pM (A:ActR ρ a act) (o:Oper) {ob:ak} {f:Nat->Value} (hv:dC P a o.op=some (ob,f)) :
  ∃s:Sem Value,(∀w:World,(execOp act.eval o).run P w=(do pure (.value (<-s)):Sem Next).run P w)/\pL P ρ s ob f:=by
 obtain ⟨dst,op,ty,pos,after,guard⟩:=o
 simp only at hv
 cases op<;>simp only[dC] at hv<;>try (cases hv;done)
 case alloc e =>
  split at hv
  ·rename_i z hz
   injection hv with hv
   injection hv with hv1 hv2
   subst hv1;subst hv2
   refine ⟨Instr.alloc e true (.tuple #[]),fun w=>rfl,jn (c':=z.cells) (f':=fun b=>.pointer (some ⟨b,0,none⟩)) (rg (ρ:=ρ) hz).cells (fun w => ?_) (fun ρ1 g b i ha=>.ptr ha)⟩
   obtain ⟨hzr,_⟩:=eF (w:=w) (ρ:=ρ) hz
   simp[Instr.alloc,hzr,newVar,jm]
  ·cases hv
 case box e x =>
  split at hv
  ·rename_i u hu
   injection hv with hv
   injection hv with hv1 hv2
   subst hv1;subst hv2
   refine ⟨Instr.box e (act.eval x),fun w=>rfl,jn (c':=(act.eval x).cells) (f':=fun b=>.pointer (some ⟨b,0,none⟩)) (A.ev hu).cells (fun w => ?_) (fun ρ1 g b i ha=>.ptr ha)⟩
   simp[Instr.box,newVar,jm]
  ·cases hv
 case buildSlice t n parts =>
  split at hv
  ·rename_i l hl
   exact ⟨Instr.buildSlice t n (parts.map fun (i,x)=>(i,act.eval x)),fun w=>rfl,lJ (ps':=parts.map fun (i,x)=>(i,act.eval x)) (by simpa using A.evPairs hl) hv⟩
  ·cases hv
 case makeMap t r =>
  have fin:∀{s:Sem Value} ,(∀w:World,s.run P w=.ok (.map (some w.heap.size)) (w.alloc (.map #[] 0)))->pL P ρ s (.map [] 0) (fun b=>.map (some b)):=by
   intro s hs
   exact ⟨.map #[] 0,0,fun b=>.map (some b),hs,fun _ _ _=>⟨.nil,rfl⟩,fun ρ1 g b hg=>.map hg,rfl⟩
  cases r with
  | none =>
    simp only at hv
    injection hv with hv
    injection hv with hv1 hv2
    subst hv1;subst hv2
    exact ⟨Instr.makeMap t none,fun w=>rfl,fin (fun w=>by simp[Instr.makeMap,dM])⟩
  | some x =>
    simp only at hv
    split at hv
    ·rename_i k n kt et hx hu
     have:=A.ev hx
     generalize hcv:act.eval x=cv at this
     cases this
     injection hv with hv
     injection hv with hv1 hv2
     subst hv1;subst hv2
     exact ⟨Instr.makeMap t (some (act.eval x)),fun w=>rfl,fin (fun w=>by simp[Instr.makeMap,al hu,hcv,asInt,asIntOf,dM])⟩
    ·cases hv
 case makeSlice t l c =>
  split at hv
  ·rename_i x y hx hy
   exact ⟨Instr.makeSlice t (act.eval l) (act.eval c),fun w=>rfl,mL (A.ev hx) (A.ev hy) hv⟩
  ·cases hv
theorem ut (H:HR P ρ N h w) {s:Sem Value} {ob:ak} {f:Nat->Value} (hm:pL P ρ s ob f) {b:Nat} {h1:Hp} (hn:h.new ob=some (b,h1)) :
  yK P ρ N w ((do pure (.value (<-s)):Sem Next).run P w) (f b) h1:=by
 obtain ⟨o',m,f',r1,r2,r3,r4⟩:=hm
 have hb:=kH hn
 subst hb
 have hle:=H.le_put ⟨w.heap.size,0,m,0,true⟩
 obtain ⟨_,h2,h3⟩:=H.new hn ⟨w.heap.size,0,m,0,true⟩ rfl (r2 _ _ hle) (fun r e=>om r4 r e)
 exact dr ⟨_,_,_,hle,r1 w,r3 _ _ _ (by simp[Rho.put]),h2,h3⟩
theorem uu (W:WfP P) (H:HR P ρ N h w) (A:ActR ρ a act) (o:Oper) {v:Value} {h1:Hp} (hv:cq P h a o.op=some (v,h1)):yK P ρ N w ((execOp act.eval o).run P w) v h1:=by
 have mk:(match dC P a o.op with|some (o,f)=>(match h.new o with|some (b,h)=>some (f b,h)|none=>none)|none=>none)=some (v,h1)->yK P ρ N w ((execOp act.eval o).run P w) v h1:=by
  intro hv
  split at hv
  ·rename_i ob f hm
   obtain ⟨s,e1,e2⟩:=pM A o hm
   split at hv
   ·rename_i b h2 hn
    injection hv with hv
    injection hv with hv1 hv2
    subst hv1;subst hv2
    rw[e1]
    exact ut H e2 hn
   ·cases hv
  ·cases hv
 obtain ⟨dst,op,ty,pos,after,guard⟩:=o
 simp only at hv
 cases op<;>simp only[cq] at hv<;>try (cases hv;done)
 case alloc e=>exact mk hv
 case box e x=>exact mk hv
 case buildSlice t n parts=>exact mk hv
 case makeMap t r=>exact mk hv
 case makeSlice t l c=>exact mk hv
 case store t x y =>
  split at hv
  ·rename_i p u hp hu
   have:=A.ev hp
   generalize hcv:act.eval x=cv at this
   cases this with
   | ptr ha =>
   cases hs:bc P h t p u with
   | none=>rw[hs] at hv;cases hv
   | some h2 =>
     rw[hs] at hv
     injection hv with hv
     injection hv with hv1 hv2
     subst hv1;subst hv2
     have:=jl (wQ H ha (A.ev hu) hs)
     simpa[execOp,hcv] using this
  ·cases hv
 case mapUpdate t m k x =>
  split at hv
  ·rename_i vm vk vx hm hk hx
   cases hs:bF P h t vm vk vx with
   | none=>rw[hs] at hv;cases hv
   | some h2 =>
     rw[hs] at hv
     injection hv with hv
     injection hv with hv1 hv2
     subst hv1;subst hv2
     exact jl (jN W H (A.ev hm) (A.ev hk) (A.ev hx) hs)
  ·cases hv
 case insert t m k x =>
  split at hv
  ·rename_i vm vk vx hm hk hx
   cases hs:bF P h t vm vk vx with
   | none=>rw[hs] at hv;cases hv
   | some h2 =>
     rw[hs] at hv
     injection hv with hv
     injection hv with hv1 hv2
     subst hv1;subst hv2
     exact jl (jN W H (A.ev hm) (A.ev hk) (A.ev hx) hs)
  ·cases hv
 case mapEntry t m k =>
  split at hv
  ·rename_i vm vk hm hk
   exact dr (ri W H (A.ev hm) (A.ev hk) hv)
  ·cases hv
 case entryStore t m k x =>
  split at hv
  ·rename_i vm vk vx hm hk hx
   cases hs:gu h vm vk vx with
   | none=>rw[hs] at hv;cases hv
   | some h2 =>
     rw[hs] at hv
     injection hv with hv
     injection hv with hv1 hv2
     subst hv1;subst hv2
     exact jl (ot H (A.ev hm) (A.ev hk) (A.ev hx) hs)
  ·cases hv
 case range t x =>
  split at hv
  ·rename_i u hu
   exact dr (wR H (A.ev hu) hv)
  ·cases hv
 case next it s =>
  split at hv
  ·rename_i u hu
   exact dr (yL H (A.ev hu) hv)
  ·cases hv
 case convert s t x =>
  split at hv
  ·rename_i u hu
   exact dr (sB H (A.ev hu) hv)
  ·cases hv
 case call c =>
  obtain ⟨cal,args,ats⟩:=c
  cases cal with
  | value f=>cases hv
  | invoke r m=>cases hv
  | builtin b =>
    simp only at hv
    split at hv
    ·rename_i l hl
     have hargs:VRs ρ l (args.map act.eval).toList:=by simpa using A.evList hl
     unfold bP at hv
     split at hv
     ·have:=dr (ur (ty:=ty) H hargs hv)
      simpa[execOp,resolve,invoke,builtin] using this
     ·have:=dr (yM (ty:=ty) H hargs hv)
      simpa[execOp,resolve,invoke,builtin] using this
     ·have:=dr (wT (ty:=ty) H hargs hv)
      simpa[execOp,resolve,invoke,builtin] using this
     ·split at hv
      ·rename_i t tr m k r ht
       obtain ⟨m',k',a0,a1,hm,hk⟩:=ow hargs rfl
       have ht0:ats[0]? = some t:=by rw[<-Array.getElem?_toList,ht];rfl
       have:=dr (uo (ty:=ty) W H ht0 a0 a1 hm hk hv)
       simpa[execOp,resolve,invoke,builtin] using this
      ·cases hv
     ·cases hv
    ·cases hv
end
section
variable {P:Program} {ρ:Rho} {N:Bs} {h:Hp} {w:World} {a:A} {act:Act}
def bO (P:Program) (C:bI):Prop :=
 ∀f args h v h1,C f args h=some (v,h1)->(∃fn c,P.funcs[f]? = some fn/\fn.body=some c/\(fn.name == "runtime.NumGoroutine")=false) /\
  ∀(ρ:Rho) (N:Bs) (w:World) (args':List Value),HR P ρ N h w->VRs ρ args args' ->
   Calls P f args'.toArray w fun e w1=>∃ ρ1 v',e=.returned v'/\ρ.le ρ1/\HR P ρ1 N h1 w1/\VR ρ1 v v'/\Below N w w1
theorem u7 (W:WfP P) {C:bI} (HC:bO P C) (H:HR P ρ N h w) (A:ActR ρ a act) (o:Oper) {v:Value} {h1:Hp} (hv:fi P C h a o.op=some (v,h1))
  {next:Act->World->Prop} {Q:Exit->Act->World->Prop} (K:∀ ρ1 w1 v',ρ.le ρ1->VR ρ1 v v'->HR P ρ1 N h1 w1->Below N w w1->next (act.put o.dst v') w1):o.wp P act w next Q:=by
 unfold fi at hv
 split at hv
 ·rename_i hr
  cases hrd:aH P h a o.op with
  | none=>rw[hrd] at hv;cases hv
  | some u =>
    rw[hrd] at hv
    injection hv with hv
    injection hv with hv1 hv2
    subst hv1;subst hv2
    obtain ⟨v',e1,e2⟩:=t8 W H A o hr hrd
    unfold Oper.wp
    rw[e1]
    exact K ρ w v' (Rho.le_refl ρ) e2 H (Below.refl _ _)
 ·split at hv
  ·rename_i f args hcal
   obtain ⟨⟨fn,c,hf,hb,hname⟩,hcall⟩:=HC f args h v h1 hv
   obtain ⟨dst,op,ty,pos,after,guard⟩:=o
   simp only at hcal
   unfold cR at hcal
   split at hcal
   ·rename_i cc _
    split at hcal
    ·rename_i fo hco
     split at hcal
     ·rename_i g first captured l hfo hl
      injection hcal with hcal
      injection hcal with hc1 hc2
      subst hc1;subst hc2
      have hfr:=A.ev hfo
      generalize hcv:act.eval fo=cv at hfr
      cases hfr with
      | @func _ _ _ f' c' hfi hca =>
      have hargs:VRs ρ l (cc.args.map act.eval).toList:=by simpa using A.evList hl
      have hall:VRs ρ (first.toList++l++captured.toList) (f'++cc.args.map act.eval++c').toList:=by
       simp only[Array.toList_append]
       exact (hfi.append hargs).append hca
      have hrun:(execOp act.eval { dst:=dst,op:=.call cc,type:=ty,pos:=pos,after:=after,guard:=guard }).run P w=.ok (.enter g (f'++cc.args.map act.eval++c')) w:=by
       have hname':¬fn.name = "runtime.NumGoroutine" := by simpa using hname
       simp[execOp,resolve,hco,hcv,Deferred.ofValue,invoke,callFunc,hf,hname',hb]
      unfold Oper.wp
      rw[hrun,Oper.upon_enter]
      refine (hcall ρ N w _ H hall).mono ?_
      rintro e w1 ⟨ρ1,v',rfl,r1,r2,r3,r4⟩
      exact K ρ1 w1 v' r1 r3 r2 r4
     ·cases hcal
    ·cases hcal
   ·cases hcal
  ·obtain ⟨ρ1,w1,nx,v',r1,r2,r3,r4,r5,r6⟩:=uu W H A o hv
   unfold Oper.wp
   rw[r2]
   rcases r3 with rfl|⟨rfl,rfl⟩
   ·exact K ρ1 w1 v' r1 r4 r5 r6
   ·exact K ρ1 w1 undef r1 r4 r5 r6
theorem lz (A:ActR ρ a act) (ops:Array Oper) (o:Oper):aW ops.toList a o=Region.wanted o (yielded ops act.tmps):=by
 cases hg:o.guard with
 | none=>simp[aW,Region.wanted,hg]
 | some jw =>
   obtain ⟨j,want⟩:=jw
   simp only[aW,Region.wanted,hg,yielded,Array.getElem?_toList]
   cases hj:ops[j]? with
   | none=>simp
   | some p =>
     cases hd:p.dst with
     | none=>simp[hd]
     | some d =>
       have hr:=A.get d
       simp only[hd,Option.bind_some]
       by_cases hlt:d<act.tmps.size
       ·have he:act.tmps[d]? = some (act.tmps.getD d undef):=by
         simp[Array.getElem?_eq_getElem hlt,Array.getD,hlt]
        rw[he]
        generalize act.tmps.getD d undef=v' at hr
        generalize a.get d=v at hr
        cases hr<;>simp
       ·have he:act.tmps[d]? = none:=Array.getElem?_eq_none (Nat.le_of_not_lt hlt)
        have hu:act.tmps.getD d undef=undef:=by simp[Array.getD,hlt]
        rw[he]
        rw[hu] at hr
        generalize a.get d=v at hr
        unfold undef at hr
        cases hr
        simp
theorem mN (W:WfP P) {C:bI} (HC:bO P C) (H:HR P ρ N h w) (A:ActR ρ a act) {ops:Array Oper} {i:Nat} {o:Oper} (ho:ops[i]? = some o) {a1:Ev.A} {h1:Hp} (hs:jF P C ops.toList o a h=some (a1,h1))
  {K:Act->World->Prop} {Q:Exit->Act->World->Prop} (hK:∀ ρ1 w1 act1,ρ.le ρ1->ActR ρ1 a1 act1->HR P ρ1 N h1 w1->Below N w w1->K act1 w1):wpOp P ops Q i K act w:=by
 unfold wpOp
 rw[ho]
 simp only[]
 unfold jF at hs
 rw[lz A ops o] at hs
 split at hs
 ·rename_i hw
  rw[if_pos hw]
  split at hs
  ·rename_i v h2 hv
   split at hs
   ·rename_i a2 ha
    injection hs with hs
    injection hs with hs1 hs2
    subst hs1;subst hs2
    refine .inl (u7 W HC H A o hv (fun ρ1 w1 v' r1 r2 r3 r4=>hK ρ1 w1 _ r1 ((A.mono r1).put r2 ha) r3 r4))
   ·cases hs
  ·cases hs
 ·rename_i hw
  rw[if_neg (by rw[hw];simp)]
  split at hs
  ·rename_i a2 ha
   injection hs with hs
   injection hs with hs1 hs2
   subst hs1;subst hs2
   exact hK ρ w _ (Rho.le_refl ρ) (A.put (v':=undef) (.tuple .nil) ha) H (Below.refl _ _)
  ·cases hs
theorem Cz (W:WfP P) {C:bI} (HC:bO P C) {ops:Array Oper} {Q:Exit->Act->World->Prop}:∀(r pre:List Oper),ops.toList=pre++r->∀{ρ:Rho} {h:Hp} {w:World} {a:Ev.A} {act:Act} {a1:Ev.A} {h1:Hp},
  HR P ρ N h w->ActR ρ a act->rS P C ops.toList r a h=some (a1,h1) ->
  (∀ ρ1 w1 act1,ρ.le ρ1->ActR ρ1 a1 act1->HR P ρ1 N h1 w1->Below N w w1->Q .normal act1 w1)->wpOps P ops Q (List.range' pre.length r.length) act w:=by
 intro r
 induction r with
 | nil =>
   intro pre hp ρ h w a act a1 h1 H A hs hQ
   simp only[rS,Option.some.injEq,Prod.mk.injEq] at hs
   obtain ⟨rfl,rfl⟩:=hs
   simp only[List.length_nil,List.range'_zero,wpOps]
   exact hQ ρ w act (Rho.le_refl ρ) A H (Below.refl _ _)
 | cons o r ih =>
   intro pre hp ρ h w a act a1 h1 H A hs hQ
   simp only[rS] at hs
   split at hs
   ·rename_i a2 h2 hst
    have ho:ops[pre.length]? = some o:=by
     rw[<-Array.getElem?_toList,hp]
     simp
    simp only[List.length_cons,List.range'_succ]
    rw[wpOps_cons]
    refine mN W HC H A ho hst (fun ρ1 w1 act1 r1 r2 r3 r4 => ?_)
    have:=ih (pre++[o]) (by rw[hp];simp) r3 r2 hs (fun ρ2 w2 act2 s1 s2 s3 s4=>hQ ρ2 w2 act2 (Rho.le_trans r1 s1) s2 s3 (r4.trans s4))
    simpa using this
   ·cases hs
end
section
variable {P:Program} {ρ:Rho} {N:Bs} {h:Hp} {w:World} {a:A} {act:Act} {mk:Bool}
theorem mU {l:List Nat} {i:Nat}:has l i=true<->i∈l:=by
 unfold has
 rw[List.any_eq_true]
 constructor
 ·rintro ⟨x,hx,he⟩
  have:=aF he
  subst this
  exact hx
 ·intro hx
  exact ⟨i,hx,by simp⟩
theorem iP:∀(r:List Oper) (acc:List (List Nat)) (i:Nat),i<acc.length->(dF acc r)[i]? = acc[i]?
 | [],_,_,_=>rfl
 | o::r,acc,i,hi=>by
   simp only[dF]
   rw[iP r _ i (by simp;omega),List.getElem?_append_left hi]
theorem mw:∀(r:List Oper) (acc:List (List Nat)) (k:Nat) (o:Oper),r[k]? = some o ->
  ∃acc',acc'.length=acc.length+k/\(dF acc r)[acc.length+k]? = some (cI acc' o.after.toList)/\∀i,i<acc'.length->acc'[i]? = (dF acc r)[i]?
 | [],_,_,_,h=>by simp at h
 | o::r,acc,0,o',h=>by
   simp at h
   subst h
   refine ⟨acc,rfl,?_,fun i hi => ?_⟩
   ·simp only[dF,Nat.add_zero]
    rw[iP r _ _ (by simp)]
    simp
   ·simp only[dF]
    rw[iP r _ _ (by simp;omega),List.getElem?_append_left hi]
 | o::r,acc,k+1,o',h=>by
   simp at h
   obtain ⟨acc',h1,h2,h3⟩:=mw r (acc++[cI acc o.after.toList]) k o' h
   simp only[List.length_append,List.length_singleton] at h1 h2
   refine ⟨acc',by omega,?_,?_⟩
   ·simp only[dF]
    rw[<-h2]
    congr 1
    omega
   ·simpa only [dF] using h3
theorem hU {acc:List (List Nat)} {j:Nat}:∀{l:List Edge},j∈cI acc l->∃e∈l,Region.binds .any e=true/\(j=e.on\/j∈(acc[e.on]?).getD [])
 | [],h=>by simp[cI] at h
 | e::l,h=>by
   simp only[cI] at h
   split at h
   ·rename_i hb
    simp only[List.cons_append,mCo,List.mem_append] at h
    rcases h with rfl|h|h
    ·exact ⟨e,by simp,hb,.inl rfl⟩
    ·exact ⟨e,by simp,hb,.inr h⟩
    ·obtain ⟨e',h1,h2⟩:=hU h
     exact ⟨e',by simp[h1],h2⟩
   ·obtain ⟨e',h1,h2⟩:=hU h
    exact ⟨e',by simp[h1],h2⟩
theorem hY {i:Nat}:∀{l:List Edge},fC i l=true->∀e∈l,Region.binds .any e=true->e.on<i
 | [],_,_,h,_=>by cases h
 | e::l,h,e',he,hb=>by
   simp only[fC] at h
   split at h
   ·split at h
    ·rename_i hlt
     rcases mCo.1 he with rfl|he
     ·simpa[Nat.blt_eq] using hlt
     ·exact hY h e' he hb
    ·cases h
   ·rename_i hf
    rcases mCo.1 he with rfl|he
    ·rw[hb] at hf;cases hf
    ·exact hY h e' he hb
theorem iQ {arr:Array Oper} {ps:List Nat} {y:Oper}:∀{l:List Oper} {k:Nat},gV mk arr ps y k l=true->∀i x,l[i]? = some x->has ps (k+i)=true\/((am mk x.op||am mk y.op)=true/\x.apart arr y=true/\y.apart arr x=true)
 | [],_,_,_,_,h=>by simp at h
 | x::l,k,h,i,x',hx=>by
   simp only[gV] at h
   split at h
   ·rename_i hh
    cases i with
    | zero=>exact .inl hh
    | succ i =>
      have:=iQ h i x' (by simpa using hx)
      rwa[show k+1+i=k+(i+1) by omega] at this
   ·split at h
    ·rename_i h1 h2 h3
     cases i with
     | zero =>
       simp at hx
       subst hx
       exact .inr ⟨h1,h2,h3⟩
     | succ i =>
       have:=iQ h i x' (by simpa using hx)
       rwa[show k+1+i=k+(i+1) by omega] at this
    ·cases h
theorem ia {ops:List Oper} {arr:Array Oper} {ps:List (List Nat)}:∀{r:List Oper} {j:Nat},gv mk ops arr ps j r=true->∀i y,r[i]? = some y ->
  fC (j+i) y.after.toList=true/\gV mk arr (aG ps (j+i)) y 0 (ops.take (j+i))=true
 | [],_,_,_,_,h=>by simp at h
 | y::r,j,h,i,y',hy=>by
   simp only[gv] at h
   split at h
   ·rename_i h1 h2
    cases i with
    | zero =>
      simp at hy
      subst hy
      exact ⟨h1,h2⟩
    | succ i =>
      have:=ia h i y' (by simpa using hy)
      rwa[show j+1+i=j+(i+1) by omega] at this
   ·cases h
structure qY (mk:Bool) (ops:Array Oper):Prop where
 edge:∀i o,ops[i]? = some o->∀e∈o.after,Region.binds .any e=true->e.on<i
 pair:∀i j x y,i<j->ops[i]? = some x->ops[j]? = some y->i∈aG (dG ops.toList) j\/((am mk x.op||am mk y.op)=true/\x.apart ops y=true/\y.apart ops x=true)
theorem ua {ops:Array Oper} (h:dp mk ops.toList=true):qY mk ops:=by
 unfold dp at h
 constructor
 ·intro i o ho e he hb
  have:=(ia h i o (by simpa using ho)).1
  rw[Nat.zero_add] at this
  exact hY this e (by simpa using he) hb
 ·intro i j x y hij hx hy
  have:=(ia h j y (by simpa using hy)).2
  rw[Nat.zero_add] at this
  have h2:=iQ this i x (by rw[List.getElem?_take,if_pos hij];simpa using hx)
  rw[Nat.zero_add,mU] at h2
  simpa using h2
def CO (ops:Array Oper) (O:Nat->Prop):Prop:=∀i o,ops[i]? = some o->O i->∀e∈o.after,Region.binds .any e=true->O e.on
theorem sh {ops:Array Oper} (K:qY mk ops) {O:Nat->Prop} (hO:CO ops O):∀(i:Nat) (o:Oper),ops[i]? = some o->(∀e∈o.after,Region.binds .any e=true->O e.on)->∀j,j∈aG (dG ops.toList) i->O j:=by
 intro i
 induction i using Nat.strongRecOn with
 | _ i ih =>
   intro o ho hd j hj
   obtain ⟨acc,h1,h2,h3⟩:=mw ops.toList [] i o (by simpa using ho)
   simp only[List.length_nil,Nat.zero_add] at h1 h2
   unfold aG dG at hj
   rw[h2] at hj
   simp only[Option.getD_some] at hj
   obtain ⟨e,he,hb,hje⟩:=hU hj
   have he':e∈o.after:=by simpa using he
   have hlt:=K.edge i o ho e he' hb
   have hOe:=hd e he' hb
   rcases hje with rfl|hje
   ·exact hOe
   ·have hlen:e.on<ops.size:=by
     have:=(Array.getElem?_eq_some_iff.1 ho).1
     omega
    obtain ⟨p,hp⟩:∃p,ops[e.on]? = some p:=⟨ops[e.on],Array.getElem?_eq_getElem hlen⟩
    rw[h3 e.on (by omega)] at hje
    exact ih e.on hlt p hp (fun e2 he2 hb2=>hO e.on p hp hOe e2 he2 hb2) j hje
theorem si:∀(n:Nat) (v u:Value),aB n v u=true->v=u:=by
 intro n
 induction n with
 | zero =>
   intro v u h
   unfold aB at h
   split at h<;>first
    | (have:=eq_of_beq h;subst this;rfl)
    | rfl
    | skip
   ·simp only[Bool.and_eq_true,da] at h
    have h1:=fI h.1
    have h2:=eq_of_beq h.2
    subst h1;subst h2;rfl
   ·rw[ch] at h
    have:=eq_of_beq h
    rename_i a b
    obtain ⟨a⟩:=a
    obtain ⟨b⟩:=b
    have h2:a=b:=Array.ext' this
    rw[h2]
   ·simp only[Bool.and_eq_true] at h
    rename_i a b
    obtain ⟨a1,a2,a3⟩:=a
    obtain ⟨b1,b2,b3⟩:=b
    obtain ⟨⟨⟨h1,h2⟩,h3⟩,h4⟩:=h
    have e1:=aF h1
    have e2:=aF h2
    simp only at e1 e2
    subst e1;subst e2
    cases a3<;>cases b3<;>simp_all
   ·simp only[Bool.and_eq_true] at h
    have e1:=aF h.1
    have e2:=aF h.2
    subst e1;subst e2;rfl
   ·simp only[Bool.and_eq_true] at h
    rename_i a n c b m d
    obtain ⟨a1,a2,a3⟩:=a
    obtain ⟨b1,b2,b3⟩:=b
    obtain ⟨⟨⟨⟨⟨h1,h2⟩,h3⟩,h4⟩,h5⟩,h6⟩:=h
    have e1:=aF h1
    have e2:=aF h2
    have e3:=aF h5
    have e4:=aF h6
    simp only at e1 e2
    subst e1;subst e2;subst e3;subst e4
    cases a3<;>cases b3<;>simp_all
   ·have e1:=aF h
    subst e1;rfl
   ·rename_i e;cases e
   ·rename_i e;cases e
   ·rename_i e;cases e
   ·rename_i e;cases e
   ·cases h
 | succ n ih =>
   have all:∀{l m:List Value},l.length=m.length->((l.zip m).all fun (x,y)=>aB n x y)=true->l=m:=by
    intro l
    induction l with
    | nil=>intro m hl _;cases m<;>simp at hl;rfl
    | cons x l ihl =>
      intro m hl h
      cases m with
      | nil=>simp at hl
      | cons y m =>
        simp only[List.zip_cons_cons,List.all_cons,Bool.and_eq_true] at h
        rw[ih _ _ h.1,ihl (by simpa using hl) h.2]
   intro v u h
   unfold aB at h
   split at h<;>first
    | (have:=eq_of_beq h;subst this;rfl)
    | rfl
    | skip
   ·simp only[Bool.and_eq_true,da] at h
    have h1:=fI h.1
    have h2:=eq_of_beq h.2
    subst h1;subst h2;rfl
   ·rw[ch] at h
    have:=eq_of_beq h
    rename_i a b
    obtain ⟨a⟩:=a
    obtain ⟨b⟩:=b
    have h2:a=b:=Array.ext' this
    rw[h2]
   ·simp only[Bool.and_eq_true] at h
    rename_i a b
    obtain ⟨a1,a2,a3⟩:=a
    obtain ⟨b1,b2,b3⟩:=b
    obtain ⟨⟨⟨h1,h2⟩,h3⟩,h4⟩:=h
    have e1:=aF h1
    have e2:=aF h2
    simp only at e1 e2
    subst e1;subst e2
    cases a3<;>cases b3<;>simp_all
   ·simp only[Bool.and_eq_true] at h
    have e1:=aF h.1
    have e2:=aF h.2
    subst e1;subst e2;rfl
   ·simp only[Bool.and_eq_true] at h
    rename_i a n c b m d
    obtain ⟨a1,a2,a3⟩:=a
    obtain ⟨b1,b2,b3⟩:=b
    obtain ⟨⟨⟨⟨⟨h1,h2⟩,h3⟩,h4⟩,h5⟩,h6⟩:=h
    have e1:=aF h1
    have e2:=aF h2
    have e3:=aF h5
    have e4:=aF h6
    simp only at e1 e2
    subst e1;subst e2;subst e3;subst e4
    cases a3<;>cases b3<;>simp_all
   ·have e1:=aF h
    subst e1;rfl
   ·rename_i e
    injection e with e
    subst e
    simp only[Bool.and_eq_true] at h
    obtain ⟨⟨⟨⟨h1,h2⟩,h3⟩,h4⟩,h5⟩:=h
    have e1:=aF h1
    subst e1
    have e2:=all (aF h2) h4
    have e3:=all (aF h3) h5
    rw[Array.ext' e2,Array.ext' e3]
   ·rename_i e
    injection e with e
    subst e
    simp only[Bool.and_eq_true] at h
    have e1:=aF h.1
    subst e1
    rw[ih _ _ h.2]
   ·rename_i e
    injection e with e
    subst e
    simp only[Bool.and_eq_true] at h
    rw[Array.ext' (all (aF h.1) h.2)]
   ·rename_i e
    injection e with e
    subst e
    simp only[Bool.and_eq_true] at h
    rw[Array.ext' (all (aF h.1) h.2)]
   ·cases h
theorem eG {a b:A}:∀{xs:List Operand},(∀x∈xs,a.ev x=b.ev x)->evList a xs=evList b xs
 | [],_=>rfl
 | x::xs,h=>by
   have h2:evList a xs=evList b xs:=eG fun y hy=>h y (List.mem_cons_of_mem _ hy)
   simp only[evList,h x (by simp),h2]
theorem gD {a b:A}:∀{xs:List (Nat×Operand)},(∀x∈xs,a.ev x.2=b.ev x.2)->evPairs a xs=evPairs b xs
 | [],_=>rfl
 | (i,x)::xs,h=>by
   have h2:evPairs a xs=evPairs b xs:=gD fun y hy=>h y (List.mem_cons_of_mem _ hy)
   have h3:a.ev x=b.ev x:=h (i,x) (by simp)
   simp only[evPairs,h3,h2]
theorem uc {a b:A} {C:bI} {op:Op} (hab:∀x∈op.operands,a.ev x=b.ev x) :
  aH P h a op=aH P h b op/\fi P C h a op=fi P C h b op/\dC P a op=dC P b op:=by
 have key:aH P h a op=aH P h b op/\cq P h a op=cq P h b op/\cR a op=cR b op/\dC P a op=dC P b op:=by
  cases op<;>simp only[Op.operands] at hab
  case build t ps =>
   have:evPairs a ps.toList=evPairs b ps.toList:=gD fun x hx=>hab x.2 (by
    simp only[List.mem_toArray,List.mem_map]
    exact ⟨x,hx,rfl⟩)
   exact ⟨by simp only[aH,this],rfl,rfl,rfl⟩
  case buildSlice t n ps =>
   have:evPairs a ps.toList=evPairs b ps.toList:=gD fun x hx=>hab x.2 (by
    simp only[List.mem_toArray,List.mem_map]
    exact ⟨x,hx,rfl⟩)
   exact ⟨rfl,by simp only[cq,dC,this],rfl,by simp only[dC,this]⟩
  case makeFunc fn first captured =>
   have h1:evList a first.toList=evList b first.toList:=eG fun x hx=>hab x (by simp at hx ⊢;exact .inl hx)
   have h2:evList a captured.toList=evList b captured.toList:=eG fun x hx=>hab x (by simp at hx ⊢;exact .inr hx)
   exact ⟨by simp only[aH,h1,h2],rfl,rfl,rfl⟩
  case makeMap t r =>
   cases r with
   | none=>exact ⟨rfl,rfl,rfl,rfl⟩
   | some x=>exact ⟨rfl,by simp only[cq,dC,hab x (by simp)],rfl,by simp only[dC,hab x (by simp)]⟩
  case slice t x lo hi mx =>
   have h0:=hab x (by simp)
   have hl:∀y,lo=some y->a.ev y=b.ev y:=fun y hy=>hab y (by subst hy;simp)
   have hh:∀y,hi=some y->a.ev y=b.ev y:=fun y hy=>hab y (by subst hy;simp)
   have hm:∀y,mx=some y->a.ev y=b.ev y:=fun y hy=>hab y (by subst hy;simp)
   have hlist:evList a (lo.toList++hi.toList++mx.toList)=evList b (lo.toList++hi.toList++mx.toList):=eG fun y hy=>by
    simp at hy
    rcases hy with hy|hy|hy
    ·exact hl y hy
    ·exact hh y hy
    ·exact hm y hy
   have bl:lo.bind a.ev=lo.bind b.ev:=by cases lo with
    | none=>rfl
    | some y=>exact hl y rfl
   have bh:hi.bind a.ev=hi.bind b.ev:=by cases hi with
    | none=>rfl
    | some y=>exact hh y rfl
   have bm:mx.bind a.ev=mx.bind b.ev:=by cases mx with
    | none=>rfl
    | some y=>exact hm y rfl
   exact ⟨by simp only[aH,h0,hlist,bl,bh,bm],rfl,rfl,rfl⟩
  case call c =>
   obtain ⟨cal,args,ats⟩:=c
   have hargs:evList a args.toList=evList b args.toList:=eG fun x hx=>hab x (by simp[Call.operands];right;simpa using hx)
   cases cal with
   | value f =>
     have hf:=hab f (by simp[Call.operands])
     exact ⟨rfl,rfl,by simp only[cR,hf,hargs],rfl⟩
   | invoke r m=>exact ⟨rfl,rfl,rfl,rfl⟩
   | builtin bb =>
     refine ⟨?_,by simp only[cq,hargs],rfl,rfl⟩
     cases bb<;>first|rfl|simp only[aH,hargs]
  all_goals
   refine ⟨?_,?_,rfl,?_⟩<;>first
    | rfl
    | (simp only[aH];done)
    | (simp only[cq];done)
    | (simp_all [aH];done)
    | (simp_all [cq,dC];done)
    | (simp_all [dC];done)
 refine ⟨key.1,?_,key.2.2.2⟩
 unfold fi
 rw[key.1,key.2.1,key.2.2.1]
end
end Go.Ev
end
