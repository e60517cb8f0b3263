/- Proved: the law FnBusied answers true at all arguments, for every operating system that has started; no conditions beyond the row's own. -/
import Derived.Calls
set_option linter.unusedVariables false
set_option linter.unusedSimpArgs false
namespace Go.Pm
abbrev zbv:=Nat×Nat×Nat
inductive Root where
 | var (i:Nat)
 | box (k:Nat)
 deriving DecidableEq
inductive V where
 | int (k:IntKind) (n:Int)
 | bool (b:Bool)
 | str (s:ByteArray)
 | imm (e:Nat) (xs:List V)
 | own (e:Nat) (xs:List V)
 | pnil
 | ref (r:Root) (c:Nat) (up:List zbv)
 | eptr (cs:List V) (c:Nat)
 | hd (e:Nat) (r:Root) (c:Nat) (up:List zbv) (lo hi:Nat)
 | fn (f:FuncId) (caps:List V)
 | clo (f:FuncId) (conts:List V)
 | agg (cs:List V)
 | tup (vs:List V)
 | gone
instance:Inhabited V:=⟨.gone⟩
def V.cells1:V->List V
 | .agg cs=>cs
 | v=>[v]
def V.cells:V->List V
 | .agg cs=>cs
 | .tup vs=>vs.flatMap V.cells1
 | v=>[v]
def V.like1:V->List V->V
 | .agg _,cs=>.agg cs
 | _,cs=>cs.headD .gone
def zks:List V->List V->List V
 | [],_=>[]
 | v::vs,cs=>v.like1 (cs.take v.cells1.length)::zks vs (cs.drop v.cells1.length)
def V.like:V->List V->V
 | .tup vs,cs=>.tup (zks vs cs)
 | v,cs=>v.like1 cs
mutual
def V.erase:V->V
 | .own e xs=>.imm e (V.eraseL xs)
 | .agg cs=>.agg (V.eraseL cs)
 | .tup cs=>.tup (V.eraseL cs)
 | v=>v
def V.eraseL:List V->List V
 | []=>[]
 | v::vs=>v.erase::V.eraseL vs
end
def V.leaf:V->Bool
 | .agg _=>false
 | .tup _=>false
 | _=>true
def V.okE:V->Bool
 | .agg cs=>cs.all V.leaf
 | .tup _=>false
 | _=>true
structure St where
 vars:List V
 boxes:List (List V)
def St.root (s:St):Root->Option (List V)
 | .var i=>(s.vars[i]?).map V.cells
 | .box k=>s.boxes[k]?
def St.cont (s:St) (r:Root):List zbv->Option (List V)
 | []=>s.root r
 | (i,e,c)::up=>
   match s.cont r up with
   | some cs=>
     match cs[c]? with
     | some (.own e' xs)=>if e'=e then(xs[i]?).map V.cells else none
     | _=>none
   | none=>none
def St.get (s:St) (r:Root) (c:Nat) (up:List zbv):Option V:=(s.cont r up).bind (·[c]?)
def St.setRoot (s:St):Root->List V->St
 | .var i,cs=>{ s with vars:=s.vars.modify i (·.like cs) }
 | .box k,cs=>{ s with boxes:=s.boxes.set k cs }
def St.setCont (s:St) (r:Root):List zbv->List V->Option St
 | [],cs=>some (s.setRoot r cs)
 | (i,_,c)::up,cs=>
   match s.cont r up with
   | some os=>
     match os[c]? with
     | some (.own e' xs)=>
       match xs[i]? with
       | some x=>s.setCont r up (os.set c (.own e' (xs.set i (x.like cs))))
       | none=>none
     | _=>none
   | none=>none
def St.put (s:St) (r:Root) (c:Nat) (up:List zbv) (v:V):Option St:=
 match s.cont r up with
 | some cs=>if c<cs.length then s.setCont r up (cs.set c v) else none
 | none=>none
def rootCell (c:Nat):List zbv->Nat
 | []=>c
 | (_,_,c')::up=>rootCell c' up
def V.kill1 (r:Root) (c0 d:Nat):V->V
 | .hd e r' c up lo hi=>if r'=r/\rootCell c up=c0/\d<=up.length then .gone else .hd e r' c up lo hi
 | .ref r' c up=>if r'=r/\rootCell c up=c0/\d<up.length then .gone else .ref r' c up
 | v=>v
def V.leafwise (f:V->V):V->V
 | .agg cs=>.agg (cs.map f)
 | .tup vs=>.tup (vs.map fun | .agg cs=>.agg (cs.map f)|v=>f v)
 | v=>f v
def St.kill (s:St) (r:Root) (c0 d:Nat):St:={ s with vars:=s.vars.map (V.leafwise (V.kill1 r c0 d)) }
def V.killBox1 (k:Nat):V->V
 | .hd e (.box k') c up lo hi=>if k'=k then .gone else .hd e (.box k') c up lo hi
 | .ref (.box k') c up=>if k'=k/\up ≠ [] then .gone else .ref (.box k') c up
 | v=>v
def V.borrow (r:Root) (c:Nat) (up:List zbv):V->V
 | .own e xs=>.hd e r c up 0 xs.length
 | v=>v
def borrows (r:Root) (up:List zbv):Nat->List V->List V
 | _,[]=>[]
 | c,v::vs=>v.borrow r c up::borrows r up (c+1) vs
def borrowT (i:Nat):Nat->List V->List V
 | _,[]=>[]
 | c,.agg cs::vs=>.agg (borrows (.var i) [] c cs)::borrowT i (c+cs.length) vs
 | c,v::vs=>v.borrow (.var i) c []::borrowT i (c+1) vs
def V.borrowAll (i:Nat):V->V
 | .agg cs=>.agg (borrows (.var i) [] 0 cs)
 | .tup vs=>.tup (borrowT i 0 vs)
 | v=>v.borrow (.var i) 0 []
inductive Opnd where
 | reg (i:Nat)
 | con (v:V)
def St.rd (s:St):Opnd->Option V
 | .reg i=>(s.vars[i]?).map (V.borrowAll i)
 | .con v=>some v
def St.viewLeaf (s:St):V->Option V
 | .hd _ r c up lo hi=>
   match s.get r c up with
   | some (.own e xs)=>if hi<=xs.length then some (.imm e (V.eraseL ((xs.take hi).drop lo))) else none
   | _=>none
 | .int k n=>some (.int k n)
 | .bool b=>some (.bool b)
 | .str b=>some (.str b)
 | .imm e xs=>some (.imm e xs)
 | .own e []=>some (.imm e [])
 | .pnil=>some .pnil
 | .clo f cs=>some (.clo f cs)
 | _=>none
def St.views (s:St):List V->Option (List V)
 | []=>some []
 | v::vs=>
   match s.viewLeaf v with
   | some x=>(s.views vs).map (x :: ·)
   | none=>none
def St.viewCaps (s:St):List V->Option (List V)
 | []=>some []
 | .ref (.box k) 0 []::vs=>
   match s.boxes[k]? with
   | some cs=>
     match s.views (borrows (.box k) [] 0 cs) with
     | some ys=>(s.viewCaps vs).map (.agg ys :: ·)
     | none=>none
   | none=>none
 | _::_=>none
def St.view (s:St):V->Option V
 | .agg cs=>(s.views cs).map .agg
 | .fn f caps=>(s.viewCaps caps).map (.clo f)
 | .ref r c up=>
   match s.cont r up with
   | some cs=>(s.views (borrows r up 0 cs)).map (.eptr · c)
   | none=>none
 | v=>s.viewLeaf v
mutual
def V.fresh:V->Bool
 | .int _ _=>true
 | .bool _=>true
 | .str _=>true
 | .own _ xs=>V.freshL xs
 | .imm _ []=>true
 | .agg cs=>V.freshL cs
 | .tup vs=>V.freshL vs
 | _=>false
def V.freshL:List V->Bool
 | []=>true
 | v::vs=>v.fresh&&V.freshL vs
end
def St.takeLeaf (s:St):V->Option (V×St)
 | .hd _ r c up lo hi=>
   match s.get r c up with
   | some (.own e xs)=>
     if hi<=xs.length then(s.put r c up .gone).map fun s'=>(.own e ((xs.take hi).drop lo),s'.kill r (rootCell c up) up.length) else none
   | _=>none
 | .int k n=>some (.int k n,s)
 | .bool b=>some (.bool b,s)
 | .str b=>some (.str b,s)
 | .imm e xs=>some (.imm e xs,s)
 | .own e []=>some (.own e [],s)
 | .pnil=>some (.pnil,s)
 | _=>none
def St.takes (s:St):List V->Option (List V×St)
 | []=>some ([],s)
 | v::vs=>
   match s.takeLeaf v with
   | some (x,s1)=>(s1.takes vs).map fun(xs,s2)=>(x::xs,s2)
   | none=>none
def St.take (s:St):V->Option (V×St)
 | .agg cs=>(s.takes cs).map fun(xs,s')=>(.agg xs,s')
 | v=>s.takeLeaf v
def St.freezeLeaf (s:St):V->Option (V×St)
 | .hd _ r c up lo hi=>
   match s.get r c up with
   | some (.own e xs)=>
     if hi<=xs.length then(s.put r c up (.imm e (V.eraseL xs))).map fun s'=>(.imm e (V.eraseL ((xs.take hi).drop lo)),s'.kill r (rootCell c up) up.length) else none
   | _=>none
 | .int k n=>some (.int k n,s)
 | .bool b=>some (.bool b,s)
 | .str b=>some (.str b,s)
 | .imm e xs=>some (.imm e xs,s)
 | .own e []=>some (.imm e [],s)
 | .pnil=>some (.pnil,s)
 | _=>none
def St.freezes (s:St):List V->Option (List V×St)
 | []=>some ([],s)
 | v::vs=>
   match s.freezeLeaf v with
   | some (x,s1)=>(s1.freezes vs).map fun(xs,s2)=>(x::xs,s2)
   | none=>none
def St.freeze (s:St):V->Option (V×St)
 | .agg cs=>(s.freezes cs).map fun(xs,s')=>(.agg xs,s')
 | v=>s.freezeLeaf v
end Go.Pm
namespace Go.Pm
inductive PM where
 | view
 | own
 | box (n:Nat)
inductive HOp where
 | mov (x:Opnd)
 | pick (c a b:Opnd)
 | alloc (z:List V)
 | box (x:Opnd)
 | boxk (i:Nat)
 | build (z:List V) (parts:List (Nat×Nat×Opnd))
 | list (e:Nat) (frz:Bool) (xs:List Opnd)
 | load (n:Option Nat) (p:Opnd)
 | store (n:Option Nat) (frz:Bool) (p x:Opnd)
 | chk (x:Opnd)
 | bin (op:BinOp) (x y:Opnd)
 | beq (neg:Bool) (x y:Opnd)
 | aeq (n:Nat) (x y:Opnd)
 | un (op:UnOp) (x:Opnd)
 | conv (k:IntKind) (x:Opnd)
 | toStr (x:Opnd)
 | toBytes (x:Opnd)
 | func (f:FuncId) (caps:List Opnd)
 | make (e bytes:Nat) (z:V) (x:Opnd)
 | slice (e:Nat) (x:Opnd) (lo hi:Option Opnd)
 | sslice (x:Opnd) (lo hi:Option Opnd)
 | fld (off:Nat) (p:Opnd)
 | idx (e:Nat) (p i:Opnd)
 | aidx (n e:Nat) (p i:Opnd)
 | part (n:Option Nat) (off:Nat) (x:Opnd)
 | ext (i:Nat) (x:Opnd)
 | extt (i:Nat) (x:Opnd)
 | tmov (x:Opnd)
 | sidx (x i:Opnd)
 | len (x:Opnd)
 | slen (x:Opnd)
 | append (e bytes:Nat) (frz:Bool) (x y:Opnd)
 | copy (e:Nat) (x y:Opnd)
 | min2 (x y:Opnd)
 | min3 (x y z:Opnd)
 | max2 (x y:Opnd)
 | call (f:FuncId) (ms:List PM) (frz:Bool) (args:List Opnd)
 | lcall (f:FuncId) (x k:Opnd)
 | dyn (x:Opnd) (args:List Opnd)
structure Item where
 i:Nat
 h:HOp
 d:Option Nat
 g:Option (Nat×Bool)
 keep:List Bool
 st:Bool
inductive HCode where
 | skip
 | seq (a b:HCode)
 | region (ops:List (HOp×Option Nat×Option (Nat×Bool)))
 | draw (m:Nat) (its:List Item)
 | drawP (m:Nat) (its:List Item) (perms:List (List Nat))
 | cond (c:Opnd) (a b:HCode)
 | block (id:Nat) (b:HCode)
 | exit (id:Nat)
 | loop (dead:List Nat) (b:HCode)
 | ret
 | dead
structure HFunc where
 np:Nat
 ns:Nat
 own:Bool
 res:List (Nat×Option (Option Nat))
 body:HCode
abbrev zan:=FuncId->List V->List (List V)->Option (V×List (List V))
def Root.okAt:Root->List zbv->Bool
 | .var _,[]=>false
 | _,_=>true
def zps (op:BinOp) (k:IntKind) (a b:Int):Option V:=
 match op with
 | .add=>some (.int k (k.wrap (a+b)))
 | .sub=>some (.int k (k.wrap (a - b)))
 | .mul=>some (.int k (k.wrap (a * b)))
 | .quo=>if b=0 then none else some (.int k (k.wrap (a.tdiv b)))
 | .rem=>if b=0 then none else some (.int k (a.tmod b))
 | .and=>some (.int k (k.wrap (BitVec.ofInt k.bits a &&& BitVec.ofInt k.bits b).toNat))
 | .or=>some (.int k (k.wrap (BitVec.ofInt k.bits a ||| BitVec.ofInt k.bits b).toNat))
 | .xor=>some (.int k (k.wrap (BitVec.ofInt k.bits a ^^^ BitVec.ofInt k.bits b).toNat))
 | .andNot=>some (.int k (k.wrap (BitVec.ofInt k.bits a &&& ~~~BitVec.ofInt k.bits b).toNat))
 | .eql=>some (.bool (decide (a=b)))
 | .neq=>some (.bool (decide (a≠b)))
 | .lss=>some (.bool (decide (a<b)))
 | .leq=>some (.bool (decide (a<=b)))
 | .gtr=>some (.bool (decide (b<a)))
 | .geq=>some (.bool (decide (b<=a)))
 | _=>none
def zw8 (op:BinOp):V->V->Option V
 | .int k a,.int k' b=>
   match op with
   | .shl=>if b<0 then none else some (.int k (k.wrap (a * 2 ^ (min b.toNat k.bits))))
   | .shr=>if b<0 then none else some (.int k (a.fdiv (2 ^ (min b.toNat k.bits))))
   | _=>if k=k' then zps op k a b else none
 | .str a,.str b=>
   match op with
   | .add=>if a.size+b.size<=9223372036854775807 then some (.str (a++b)) else none
   | .eql=>some (.bool (a.toList == b.toList))
   | .neq=>some (.bool (!(a.toList == b.toList)))
   | _=>none
 | _,_=>none
def unV (op:UnOp):V->Option V
 | .bool b=>match op with | .not=>some (.bool !b)|_=>none
 | .int k n=>match op with | .neg=>some (.int k (k.wrap (0 - n)))|_=>none
 | _=>none
def zst:List V->List V->Option Bool
 | [],[]=>some true
 | .int k a::xs,.int k' b::ys=>if k=k' then(match zst xs ys with|some r=>some (decide (a=b)&&r)|none=>none) else none
 | _,_=>none
def ydq:V->Option Nat
 | .hd _ _ _ _ lo hi=>some (hi - lo)
 | .imm _ xs=>some xs.length
 | .own _ []=>some 0
 | _=>none
def zpk (b:UInt8):V:=.int .u8 b.toNat
def zc7 (s:ByteArray):List V:=s.data.toList.map zpk
def yet:V->Option UInt8
 | .int .u8 n=>some (UInt8.ofNat n.toNat)
 | _=>none
def zg6:List V->Option (List UInt8)
 | []=>some []
 | v::vs=>match yet v with
   | some b=>(zg6 vs).map (b :: ·)
   | none=>none
def St.elems (s:St) (e:Nat):V->Option (List V)
 | .hd e' r c up lo hi=>
   match s.get r c up with
   | some (.own _ xs)=>if e'=e/\hi<=xs.length then some ((xs.take hi).drop lo) else none
   | _=>none
 | .imm e' xs=>if e'=e then some xs else none
 | .own _ []=>some []
 | _=>none
def yf2:V->Option Int
 | .int _ n=>some n
 | _=>none
def St.rds (s:St):List Opnd->Option (List V)
 | []=>some []
 | o::os=>match s.rd o with
   | some v=>(s.rds os).map (v :: ·)
   | none=>none
def zr1:List V->List (Nat×V)->List V
 | z,[]=>z
 | z,(off,v)::ps=>zr1 (z.take off++v.cells++z.drop (off+v.cells.length)) ps
def V.solid:V->Bool
 | .gone=>false
 | .tup _=>false
 | _=>true
def St.rdParts (s:St):List (Nat×Nat×Opnd)->Option (List (Nat×V))
 | []=>some []
 | (i,m,o)::os=>match s.rd o with
   | some v=>if v.solid&&v.cells.length == m then(s.rdParts os).map ((i,v) :: ·) else none
   | none=>none
def zgb:V->Bool
 | .int _ _=>true
 | .bool _=>true
 | .str _=>true
 | _=>false
def St.putCell (s:St) (r:Root) (c:Nat) (up:List zbv) (v:V):Option St:=
 match s.get r c up with
 | some old=>(s.put r c up v).map fun s'=>if zgb old&&zgb v then s' else s'.kill r (rootCell c up) up.length
 | none=>none
def St.putCells (s:St) (r:Root) (c:Nat) (up:List zbv):List V->Option St
 | []=>some s
 | v::vs=>match s.putCell r c up v with
   | some s'=>s'.putCells r (c+1) up vs
   | none=>none
def St.takesAll (s:St) (frz:Bool):List V->Option (List V×St)
 | []=>some ([],s)
 | v::vs=>match (if frz then s.freeze v else s.take v) with
   | some (x,s1)=>(s1.takesAll frz vs).map fun(xs,s2)=>(x::xs,s2)
   | none=>none
def bnd:V->Bool
 | .int _ _=>true
 | .bool _=>true
 | .str _=>true
 | .imm _ _=>true
 | .own _ _=>true
 | _=>false
def ykz (v:V):Bool:=v.cells.all zgb
def zkx:V->Bool
 | .imm _ _=>true
 | v=>zgb v
def zvk (v:V):Bool:=v.cells.all zkx
def St.passes (s:St) (nb:Nat):List PM->List V->Option (List V×List (Nat×Nat×Nat)×St)
 | [],[]=>some ([],[],s)
 | .view::ms,v::vs=>
   match s.freeze v with
   | some (x,s1)=>(s1.passes nb ms vs).map fun(xs,bs,s2)=>(x::xs,bs,s2)
   | none=>none
 | .own::ms,v::vs=>
   match s.take v with
   | some (x,s1)=>(s1.passes nb ms vs).map fun(xs,bs,s2)=>(x::xs,bs,s2)
   | none=>none
 | .box n::ms,.ref (.box k) off []::vs=>
   (s.passes (nb+1) ms vs).map fun(xs,bs,s2)=>(.ref (.box nb) 0 []::xs,(k,off,n)::bs,s2)
 | _,_=>none
def St.viewsAll (s:St):List V->Option (List V)
 | []=>some []
 | v::vs=>match s.view v with
   | some x=>(s.viewsAll vs).map (x :: ·)
   | none=>none
def St.windows (s:St):List (Nat×Nat×Nat)->Option (List (List V))
 | []=>some []
 | (k,off,n)::ws=>
   match s.boxes[k]? with
   | some cs=>if off=0/\n=cs.length/\cs.all bnd/\ws.all (fun w=>w.1 != k) then(s.windows ws).map (cs :: ·) else none
   | none=>none
def St.backs (s:St):List (Nat×Nat×Nat)->List (List V)->Option (St×List (List V))
 | [],bs=>some (s,bs)
 | (k,_,n)::ws,b::bs=>
   match s.boxes[k]? with
   | some _=>if b.length=n/\b.all bnd=true then
    St.backs { vars:=s.vars.map (V.leafwise (V.killBox1 k)),boxes:=s.boxes.set k b } ws bs else none
   | none=>none
 | _::_,[]=>none
def St.land (s:St) (nb:Nat) (r:V) (more:List (List V)):Option (V×St):=
 match r,more with
 | .ref (.box i) 0 [],[b]=>if i=nb/\b.all bnd=true then some (.ref (.box s.boxes.length) 0 [],{ s with boxes:=s.boxes ++ [b] }) else none
 | r,[]=>if r.cells.all bnd then some (r,s) else none
 | _,_=>none
def St.lendLeaf (s:St):V->Option (V×St)
 | .hd e r c up lo hi=>
   match s.get r c up with
   | some (.own e' xs)=>if lo=0/\hi=xs.length/\e'=e then(s.put r c up .gone).map fun s'=>(.own e xs,s'.kill r (rootCell c up) up.length) else none
   | _=>none
 | v=>s.takeLeaf v
def St.lends (s:St):List V->Option (List V×St)
 | []=>some ([],s)
 | v::vs=>
   match s.lendLeaf v with
   | some (x,s1)=>(s1.lends vs).map fun(xs,s2)=>(x::xs,s2)
   | none=>none
def St.lend (s:St):V->Option (V×St)
 | .agg cs=>(s.lends cs).map fun(xs,s')=>(.agg xs,s')
 | v=>s.lendLeaf v
def St.gives (s:St):List V->List V->Option St
 | [],[]=>some s
 | z::zs,t::ts=>
   match z with
   | .hd _ r c up _ _=>
     match s.put r c up t with
     | some s'=>(s'.kill r (rootCell c up) up.length).gives zs ts
     | none=>none
   | _=>s.gives zs ts
 | _,_=>none
def zg8 (bs:List (List V)):V->V->V
 | .hd e (.box q) c [] lo hi,.gone=>
   match (bs[q]?).bind (·[c]?) with
   | some (.own e' _)=>if e'=e then .hd e (.box q) c [] lo hi else .gone
   | _=>.gone
 | _,u=>u
def zdk (bs:List (List V)):List V->List V->List V
 | z::zs,u::us=>zg8 bs z u::zdk bs zs us
 | _,us=>us
def zbc (bs:List (List V)):V->V->V
 | .agg zs,.agg us=>.agg (zdk bs zs us)
 | z,.gone=>zg8 bs z .gone
 | _,u=>u
def zeh (bs:List (List V)):List V->List V->List V
 | z::zs,u::us=>zbc bs z u::zeh bs zs us
 | _,us=>us
def St.remark (zs:List V) (s:St):St:={ s with vars:=zeh s.boxes zs s.vars }
def zgk (q:Nat):Nat->List V->List V
 | _,[]=>[]
 | c,.own e ys::us=>.hd e (.box q) c [] 0 ys.length::zgk q (c+1) us
 | c,_::us=>.gone::zgk q (c+1) us
def zej (q:Nat):V->V
 | .agg ys=>.agg (zgk q 0 ys)
 | _=>.gone
def zpw:List V->Bool
 | []=>true
 | z::zs=>
   match z with
   | .hd _ r _ up _ _=>zs.all fun | .hd _ r' _ up' _ _=>up.isEmpty&&up'.isEmpty&&decide (r'=r)|_=>true
   | _=>zpw zs
def ztk:V->V->Bool
 | .agg a,.agg b=>a.length == b.length&&b.all bnd
 | .own _ _,.own _ _=>true
 | _,_=>false
def St.step (R:zan) (s:St):HOp->Option (V×St)
 | .mov x=>(s.rd x).map (·,s)
 | .pick c a b=>
   match s.rd c with
   | some (.bool t)=>(s.rd (if t then a else b)).map (·,s)
   | _=>none
 | .alloc z=>some (.ref (.box s.boxes.length) 0 [],{ s with boxes:=s.boxes ++ [z] })
 | .box x=>
   match s.rd x with
   | some v=>(s.take v).map fun(x,s1)=>(.ref (.box s1.boxes.length) 0 [],{ s1 with boxes:=s1.boxes ++ [x.cells] })
   | none=>none
 | .boxk i=>
   match s.rd (.reg i) with
   | some v=>(s.take v).map fun(y,s1)=>(.ref (.box s1.boxes.length) 0 [],St.remark (s1.vars.set i (zej s1.boxes.length y)) { s1 with boxes:=s1.boxes ++ [y.cells] })
   | none=>none
 | .build z ps=>(s.rdParts ps).map fun vs=>(.agg (zr1 z vs),s)
 | .list e frz xs=>
   match s.rds xs with
   | some vs=>
     match s.takesAll frz vs with
     | some (ys,s1)=>if ys.all (fun y=>y.cells.length == e) then some (.own e ys,s1) else none
     | none=>none
   | none=>none
 | .load n p=>
   match s.rd p with
   | some (.ref r c up)=>
     match s.cont r up with
     | some cs=>
       match n with
       | none=>(cs[c]?).map fun v=>(v.borrow r c up,s)
       | some m=>if c+m<=cs.length then some (.agg (borrows r up c ((cs.drop c).take m)),s) else none
     | none=>none
   | some (.eptr cs c)=>
     match n with
     | none=>(cs[c]?).map fun v=>(v,s)
     | some m=>if c+m<=cs.length then some (.agg ((cs.drop c).take m),s) else none
   | _=>none
 | .store n frz p x=>
   match s.rd p,s.rd x with
   | some (.ref r c up),some (.ref (.box k) off [])=>if n=none/\up=[]/\r.okAt up=true then(s.putCells r c up [.ref (.box k) off []]).map (.gone,·) else none
   | some (.ref r c up),some v=>
     if r.okAt up=true then
      match (if frz then s.freeze v else s.take v) with
      | some (x,s1)=>if x.cells.length=n.getD 1 then(s1.putCells r c up x.cells).map (.gone,·) else none
      | none=>none
     else none
   | _,_=>none
 | .chk x=>
   match s.rd x with
   | some (.ref r c up)=>some (.ref r c up,s)
   | some (.eptr cs c)=>some (.eptr cs c,s)
   | some (.fn f cs)=>some (.fn f cs,s)
   | some (.clo f cs)=>some (.clo f cs,s)
   | _=>none
 | .bin op x y=>
   match s.rd x,s.rd y with
   | some a,some b=>(zw8 op a b).map (·,s)
   | _,_=>none
 | .beq neg x y=>
   match s.rd x,s.rd y with
   | some (.bool a),some (.bool b)=>some (.bool (neg.xor (a == b)),s)
   | _,_=>none
 | .aeq n x y=>
   match s.rd x,s.rd y with
   | some (.agg a),some (.agg b)=>if a.length=n/\b.length=n then(zst a b).map (.bool ·,s) else none
   | _,_=>none
 | .un op x=>((s.rd x).bind (unV op)).map (·,s)
 | .conv k x=>
   match s.rd x with
   | some (.int _ n)=>some (.int k (k.wrap n),s)
   | _=>none
 | .toStr x=>
   match s.rd x with
   | some v=>((s.elems 1 v).bind zg6).map fun bs=>(.str ⟨bs.toArray⟩,s)
   | none=>none
 | .toBytes x=>
   match s.rd x with
   | some (.str b)=>some (.own 1 (zc7 b),s)
   | _=>none
 | .func f caps=>(s.rds caps).map fun vs=>(.fn f vs,s)
 | .make e bytes z x=>
   match s.rd x with
   | some (.int _ n)=>if 0<=n/\n.toNat * bytes<=70368744177664 then some (.own e (List.replicate n.toNat z),s) else none
   | _=>none
 | .slice e x lo hi=>
   match s.rd x with
   | some v=>
     match ydq v,(match lo with|none=>some 0|some o=>(s.rd o).bind yf2) with
     | some n,some l=>
       match (match hi with|none=>some (n:Int)|some o=>(s.rd o).bind yf2) with
       | some h=>
         if 0<=l/\l<=h/\h<=n then
          match v with
          | .hd e' r c up lo _=>if e'=e then some (.hd e r c up (lo+l.toNat) (lo+h.toNat),s) else none
          | .imm e' xs=>if e'=e then some (.imm e ((xs.take h.toNat).drop l.toNat),s) else none
          | .own e' []=>if e'=e then some (.own e [],s) else none
          | _=>none
         else none
       | none=>none
     | _,_=>none
   | none=>none
 | .sslice x lo hi=>
   match s.rd x with
   | some (.str b)=>
     match (match lo with|none=>some 0|some o=>(s.rd o).bind yf2) with
     | some l=>
       match (match hi with|none=>some (b.size:Int)|some o=>(s.rd o).bind yf2) with
       | some h=>if 0<=l/\l<=h/\h<=b.size then some (.str (b.extract l.toNat h.toNat),s) else none
       | none=>none
     | none=>none
   | _=>none
 | .fld off p=>
   match s.rd p with
   | some (.ref r c up)=>some (.ref r (c+off) up,s)
   | some (.eptr cs c)=>some (.eptr cs (c+off),s)
   | _=>none
 | .idx e p i=>
   match s.rd p,s.rd i with
   | some (.hd e' r c up lo hi),some (.int _ n)=>if e'=e/\0<=n/\n<(hi - lo:Nat) then some (.ref r 0 ((lo+n.toNat,e,c)::up),s) else none
   | some (.imm e' xs),some (.int _ n)=>if e'=e/\0<=n then(xs[n.toNat]?).map fun x=>(.eptr x.cells 0,s) else none
   | _,_=>none
 | .aidx n e p i=>
   match s.rd p,s.rd i with
   | some (.ref r c up),some (.int _ m)=>if 0<=m/\m<n then some (.ref r (c+m.toNat * e) up,s) else none
   | _,_=>none
 | .part n off x=>
   match s.rd x with
   | some (.agg cs)=>
     match n with
     | none=>(cs[off]?).map (·,s)
     | some m=>if off+m<=cs.length then some (.agg ((cs.drop off).take m),s) else none
   | _=>none
 | .ext i x=>
   match s.rd x with
   | some (.tup vs)=>(vs[i]?).map (·,s)
   | _=>none
 | .tmov x=>
   match s.rd x with
   | some (.tup vs)=>(s.takesAll false vs).map fun(ys,s1)=>(.tup ys,s1)
   | some v=>s.freeze v
   | none=>none
 | .extt i x=>
   match s.rd x with
   | some (.tup vs)=>(vs[i]?).bind s.take
   | _=>none
 | .sidx x i=>
   match s.rd x,s.rd i with
   | some (.str b),some (.int _ n)=>if 0<=n then(b.data.toList[n.toNat]?).map fun x=>(zpk x,s) else none
   | _,_=>none
 | .len x=>
   match (s.rd x).bind ydq with
   | some n=>some (.int .i64 (n:Nat),s)
   | none=>none
 | .slen x=>
   match s.rd x with
   | some (.str b)=>some (.int .i64 b.size,s)
   | _=>none
 | .append e bytes frz x y=>
   match s.rd x with
   | some a=>
     match s.take a with
     | some (.own e' xs,s1)=>
       if e'=e then
        match s1.rd y with
        | some (.str b)=>if e=1/\(xs.length+b.size) * bytes<=70368744177664 then some (.own e (xs++zc7 b),s1) else none
        | some (.imm e' ys)=>if e'=e/\(xs.length+ys.length) * bytes<=70368744177664 then some (.own e (xs++ys),s1) else none
        | some v=>
          match (if frz then s1.freeze v else s1.take v) with
          | some (.own e' ys,s2)=>if e'=e/\(xs.length+ys.length) * bytes<=70368744177664 then some (.own e (xs++ys),s2) else none
          | some (.imm e' ys,s2)=>if e'=e/\(xs.length+ys.length) * bytes<=70368744177664 then some (.own e (xs++ys),s2) else none
          | _=>none
        | none=>none
       else none
     | _=>none
   | none=>none
 | .copy e x y=>
   match s.rd x,s.rd y with
   | some (.hd e' r c up lo hi),some v=>
     match s.get r c up,s.elems e v with
     | some (.own _ xs),some ys=>
       if e'=e/\hi<=xs.length/\lo<=hi/\ys.all ykz then
        (s.put r c up (.own e (xs.take lo++ys.take (hi - lo)++xs.drop (lo+min ys.length (hi - lo))))).map fun s'=>(.int .i64 (min ys.length (hi - lo):Nat),s')
       else none
     | _,_=>none
   | _,_=>none
 | .min2 x y=>
   match s.rd x,s.rd y with
   | some (.int k a),some (.int _ b)=>some (.int k (if b<a then b else a),s)
   | _,_=>none
 | .min3 x y z=>
   match s.rd x,s.rd y,s.rd z with
   | some (.int k a),some (.int _ b),some (.int _ c)=>some (.int k (if c<(if b<a then b else a) then c else(if b<a then b else a)),s)
   | _,_,_=>none
 | .max2 x y=>
   match s.rd x,s.rd y with
   | some (.int k a),some (.int _ b)=>some (.int k (if a<b then b else a),s)
   | _,_=>none
 | .call f ms frz args=>
   match s.rds args with
   | some vs=>
     if frz then
      match s.passes 0 ms vs with
      | some (xs,ws,s1)=>
        match s1.windows ws with
        | some bs=>
          match R f xs bs with
          | some (r,bs')=>
            match s1.backs ws bs' with
            | some (s2,more)=>s2.land ws.length r more
            | none=>none
          | none=>none
        | none=>none
      | none=>none
     else
      match s.viewsAll vs with
      | some xs=>
        match R f xs [] with
        | some (r,bs')=>if bs'.isEmpty/\r.fresh=true then some (r,s) else none
        | none=>none
      | none=>none
   | none=>none
 | .lcall f x k=>
   match s.rd x,s.rd k with
   | some v,some (.int ik m)=>
     match s.lend v with
     | some (y,s1)=>
       match R f [y,.int ik m] [[.gone]] with
       | some (.tup [.int jk n,.tup [t]],_)=>if zpw v.cells&&ztk y t then(s1.gives v.cells t.cells).map fun s'=>(.int jk n,s'.remark s.vars) else none
       | _=>none
     | none=>none
   | _,_=>none
 | .dyn x args=>
   match s.rd x,s.rds args with
   | some fv,some vs=>
     match s.view fv,s.viewsAll vs with
     | some (.clo f conts),some xs=>
       if conts.all V.okE then
        match R f (xs++conts.map fun c=>.eptr c.cells 0) [] with
        | some (r,bs')=>if bs'.isEmpty/\r.fresh=true then some (r,s) else none
        | none=>none
       else none
     | _,_=>none
   | _,_=>none
end Go.Pm
namespace Go.Pm
def V.unloc1 (ns:Nat):V->V
 | .hd e (.var j) c up lo hi=>if ns<=j then .gone else .hd e (.var j) c up lo hi
 | .ref (.var j) c up=>if ns<=j then .gone else .ref (.var j) c up
 | v=>v
def V.killVar1 (k:Nat):V->V
 | .hd e (.var j) c up lo hi=>if j=k then .gone else .hd e (.var j) c up lo hi
 | .ref (.var j) c up=>if j=k then .gone else .ref (.var j) c up
 | v=>v
def V.only1 (ns k:Nat) (v:V):V:=V.unloc1 ns (V.killVar1 k v)
def St.settleLeaf (s:St) (ns k:Nat):V->Option (V×St)
 | .hd e (.var j) c up lo hi=>if j=k\/ns<=j then s.takeLeaf (.hd e (.var j) c up lo hi) else some (.hd e (.var j) c up lo hi,s)
 | v=>some (v,s)
def St.settles (s:St) (ns k:Nat):List V->Option (List V×St)
 | []=>some ([],s)
 | v::vs=>
   match s.settleLeaf ns k v with
   | some (x,s1)=>(s1.settles ns k vs).map fun(xs,s2)=>(x::xs,s2)
   | none=>none
def St.settle (s:St) (ns k:Nat):V->Option (V×St)
 | .agg cs=>(s.settles ns k cs).map fun(xs,s')=>(.agg xs,s')
 | .tup _=>none
 | v=>s.settleLeaf ns k v
def St.dest (s:St) (ns:Nat):Option Nat->V->Option St
 | none,v=>some { s with vars:=s.vars ++ [v] }
 | some k,v=>
   match s.settle ns k v with
   | some (x,s1)=>some { s1 with vars:=((s1.vars.map (V.leafwise (V.killVar1 k))).set k (x.leafwise (V.only1 ns k))) ++ [.gone] }
   | none=>none
def St.wanted (s:St):Option (Nat×Bool)->Option Bool
 | none=>some true
 | some (j,want)=>
   match s.vars[j]? with
   | some (.bool b)=>some (b == want)
   | some (.tup [])=>some false
   | _=>none
def zc5 (R:zan) (ns:Nat):List (HOp×Option Nat×Option (Nat×Bool))->St->Option St
 | [],s=>some s
 | (o,d,g)::os,s=>
   match s.wanted g with
   | some true=>
     match s.step R o with
     | some (v,s1)=>
       match s1.dest ns d v with
       | some s2=>zc5 R ns os s2
       | none=>none
     | none=>none
   | some false=>if d=none then zc5 R ns os { s with vars:=s.vars ++ [.tup []] } else none
   | none=>none
def St.only (s:St) (ns:Nat) (keep:List Bool):St:={ s with vars:=s.vars.take ns++List.zipWith (fun b v=>if b then v else .gone) keep (s.vars.drop ns) }
def V.isGone:V->Bool
 | .gone=>true
 | _=>false
def V.notGone:V->Bool
 | .gone=>false
 | .fn _ caps=>caps.all (!·.isGone)
 | _=>true
def V.parts:V->List V
 | .tup vs=>vs
 | _=>[]
def V.whole (v:V):Bool:=v.parts.all (!·.isGone) && !v.cells.isEmpty&&v.cells.all V.notGone
def HOp.pure:HOp->Bool
 | .alloc _=>false
 | .box _=>false
 | .boxk _=>true
 | .store _ _ _ _=>false
 | .append _ _ _ _ _=>false
 | .copy _ _ _=>false
 | .call _ _ frz _=> !frz
 | _=>true
def St.listOk (s:St):HOp->Bool
 | .list _ _ xs=>(match s.rds xs with|some vs=>vs.all zvk|none=>false)
 | .lcall _ _ _=>false
 | .boxk _=>false
 | .extt _ _=>false
 | .tmov _=>false
 | _=>true
def St.peek (R:zan) (s:St) (h:HOp):Option V:=
 if h.pure then
  match s.listOk h,s.step R h with
  | true,some (v,_)=>if v.whole then some v else none
  | _,_=>none
 else none
def zd1 (R:zan) (s:St) (ns:Nat) (q:Item):Option V:=
 match (s.only ns q.keep).wanted q.g with
 | some true=>(s.only ns q.keep).peek R q.h
 | some false=>some (.tup [])
 | none=>none
def HOp.pureD:HOp->Bool
 | .list _ _ _=>false
 | h=>h.pure
def St.stepD (R:zan) (s:St) (h:HOp):Option (V×St):=if h.pureD then(s.peek R h).map (·,s) else s.step R h
def St.destD (s:St) (ns pos:Nat):Option Nat->V->Option St
 | none,v=>some { s with vars:=s.vars.set pos v }
 | some k,v=>
   match s.settle ns k v with
   | some (x,s1)=>some { s1 with vars:=(s1.vars.map (V.leafwise (V.killVar1 k))).set k (x.leafwise (V.only1 ns k)) }
   | none=>none
def ycz (R:zan) (ns:Nat) (keep:List Bool) (s s2:St):List Item->Prop
 | []=>True
 | q::qs=>(keep.getD q.i false=false->s2.vars.getD (ns+q.i) .gone=s.vars.getD (ns+q.i) .gone/\zd1 R s2 ns q=some (s2.vars.getD (ns+q.i) .gone))/\ycz R ns keep s s2 qs
def orB:List Bool->List Bool->List Bool
 | [],ys=>ys
 | xs,[]=>xs
 | x::xs,y::ys=>(x||y)::orB xs ys
open Classical in
noncomputable def zfj (R:zan) (ns:Nat):List Bool->List Item->List Item->St->Option St
 | _,_,[],s=>some s
 | ks,dn,it::its,s=>
   if it.st then
    match (if it.g.isNone then(s.only ns it.keep).stepD R it.h else none),s.stepD R it.h with
    | some (v,s1),some (_,s1')=>
      match s1.destD ns (ns+it.i) it.d v,s1'.destD ns (ns+it.i) it.d v with
      | some _,some s2=>if ycz R ns (orB ks it.keep) s s2 dn then zfj R ns (orB ks it.keep) dn its s2 else none
      | _,_=>none
    | _,_=>none
   else
    match zd1 R s ns it with
    | some v=>if it.d=none then zfj R ns ks (it::dn) its { s with vars:=s.vars.set (ns+it.i) v } else none
    | none=>none
def zer (its:List Item) (p:List Nat):List Item:=p.filterMap (its[·]?)
open Classical in
noncomputable def zgn (R:zan) (ns:Nat) (its:List Item) (perms:List (List Nat)) (s:St):Option St:=
 match zfj R ns [] [] its s with
 | some s1=>if ∀ p∈perms,zfj R ns [] [] (zer its p) s=some s1 then some s1 else none
 | none=>none
def St.fin (s:St) (ns:Nat):St:={ s with vars:=(s.vars.take ns).map (V.leafwise (V.unloc1 ns)) }
inductive Ex where
 | normal
 | exit (id:Nat)
 | ret
def V.under1 (nb:Nat):V->Bool
 | .ref (.box k) _ _=>k<nb
 | .hd _ (.box k) _ _ _ _=>k<nb
 | .fn _ caps=>caps.all fun | .ref (.box k) _ _=>decide (k<nb)|_=>true
 | _=>true
def V.under (nb:Nat) (v:V):Bool:=v.cells.all (V.under1 nb)
def St.trim (s:St) (nb:Nat) (dead:List Nat):Option St:=
 let vs:=dead.foldl (fun vs d=>(vs.map (V.leafwise (V.killVar1 d))).set d .gone) s.vars
 if vs.all (V.under nb)/\(s.boxes.take nb).all (·.all (V.under nb)) then some { vars:=vs,boxes:=s.boxes.take nb } else none
noncomputable def zvb (f:St->Option (Ex×St)) (nb:Nat) (dead:List Nat):Nat->St->Option (Ex×St)
 | 0,_=>none
 | n+1,s=>
   match s.trim nb dead with
   | some s0=>
     match f s0 with
     | some (.normal,s1)=>zvb f nb dead n s1
     | r=>r
   | none=>none
noncomputable def zcy (R:zan) (n ns:Nat):HCode->St->Option (Ex×St)
 | .skip,s=>some (.normal,s)
 | .seq a b,s=>
   match zcy R n ns a s with
   | some (.normal,s1)=>zcy R n ns b s1
   | r=>r
 | .region ops,s=>(zc5 R ns ops s).map fun s1=>(.normal,s1.fin ns)
 | .draw m its,s=>(zfj R ns [] [] its { s with vars:=s.vars++List.replicate m .gone }).map fun s1=>(.normal,s1.fin ns)
 | .drawP m its perms,s=>(zgn R ns its perms { s with vars:=s.vars++List.replicate m .gone }).map fun s1=>(.normal,s1.fin ns)
 | .cond c a b,s=>
   match s.rd c with
   | some (.bool t)=>if t=true then zcy R n ns a s else zcy R n ns b s
   | _=>none
 | .block id b,s=>
   match zcy R n ns b s with
   | some (.exit id',s1)=>if id'=id then some (.normal,s1) else some (.exit id',s1)
   | r=>r
 | .exit id,s=>some (.exit id,s)
 | .loop dead b,s=>zvb (zcy R n ns b) s.boxes.length dead n s
 | .ret,s=>some (.ret,s)
 | .dead,_=>none
def St.rdRes (s:St):List (Nat×Option (Option Nat))->Option (List V)
 | []=>some []
 | (i,how)::rs=>
   match (match s.rd (.reg i),how with
    | some v,none=>some v
    | some (.ref r c up),some none=>(s.cont r up).bind fun cs=>(cs[c]?).map (V.borrow r c up)
    | some (.ref r c up),some (some m)=>(s.cont r up).bind fun cs=>if c+m<=cs.length then some (.agg (borrows r up c ((cs.drop c).take m))) else none
    | _,_=>none) with
   | some v=>(s.rdRes rs).map (v :: ·)
   | none=>none
def yj7:List V->V
 | [x]=>x
 | xs=>.tup xs
def St.finish (s:St) (h:HFunc) (nb:Nat):Option (V×List (List V)):=
 match s.rdRes h.res with
 | some [.ref (.box k) 0 []]=>
   match s.boxes[k]? with
   | some b=>if nb<=k/\b.all bnd/\(s.boxes.take nb).all (·.all bnd) then some (.ref (.box nb) 0 [],s.boxes.take nb ++ [b]) else none
   | none=>none
 | some vs=>
   match s.takesAll (!h.own) vs with
   | some (xs,s1)=>
     if(yj7 xs).cells.all bnd/\(s1.boxes.take nb).all (·.all bnd) then some (yj7 xs,s1.boxes.take nb) else none
   | none=>none
 | none=>none
def V.lentOk:V->Bool
 | .tup _=>false
 | v=>v.cells.all bnd
def St.lendBack (s:St) (h:HFunc):Option V:=
 match s.rdRes h.res,s.rd (.reg 0) with
 | some [.int k n],some v=>
   match s.take v with
   | some (t,_)=>if t.lentOk then some (.tup [.int k n,.tup [t]]) else none
   | none=>none
 | _,_=>none
inductive Body where
 | go (h:HFunc)
 | prim (p:List V->Option V)
 | lend (h:HFunc)
abbrev Tab:=FuncId->Option Body
noncomputable def zff (T:Tab):Nat->zan
 | 0=>fun _ _ _=>none
 | n+1=>fun f args bs=>
   match T f with
   | some (.go h)=>
     if args.length=h.np then
      match zcy (zff T n) n h.ns h.body { vars:=args++List.replicate (h.ns - h.np) .gone,boxes:=bs } with
      | some (.exit _,_)=>none
      | some (_,s)=>s.finish h bs.length
      | none=>none
     else none
   | some (.prim p)=>if bs=[] then(p args).map (·,[]) else none
   | some (.lend h)=>
     match bs with
     | [[.gone]]=>
       if args.length=h.np then
        match zcy (zff T n) n h.ns h.body { vars:=args++List.replicate (h.ns - h.np) .gone,boxes:=[] } with
        | some (.exit _,_)=>none
        | some (_,s)=>(s.lendBack h).map (·,[])
        | none=>none
       else none
     | _=>none
   | none=>none
end Go.Pm
namespace Go.Pm
def bits:Nat->Nat->List Bool
 | 0,_=>[]
 | m+1,n=>(n % 2 == 1)::bits m (n / 2)
def o1 (h:HOp):HOp×Option Nat×Option (Nat×Bool):=(h,none,none)
def og (j:Nat) (b:Bool) (h:HOp):HOp×Option Nat×Option (Nat×Bool):=(h,none,some (j,b))
end Go.Pm
