/- Proved: the law FnExactSummary answers true at all arguments, for every operating system that has started, where the library's three tables lie as the program's text lays them, and that they lie so is tied to the text. -/
import Derived.Test.YtfoflieoeahhfaaDoorMn
import Derived.KernelRfl
set_option linter.unusedVariables false
set_option linter.unusedSimpArgs false
namespace Go.Pm
variable {ρ ω α β:Type}
def Tree.segA (f:α->V) (X:List α) (k:Tree ρ ω):Tree ρ ω:=.seg (X.map f) 0 (X.map f).length (X.map f) k
theorem zzl (xs:List V):xs.length<=xs.length/\(xs.take xs.length).drop 0=xs:=⟨Nat.le_refl _,by simp⟩
def Tree.eraA (f g:α->V) (X:List α) (k:Tree ρ ω):Tree ρ ω:=.eqL (V.eraseL (X.map f)) (X.map g) k
def Tree.appA (f:α->V) (X Y:List α) (k:Tree ρ ω):Tree ρ ω:=.eqL (X.map f++Y.map f) ((X++Y).map f) k
theorem zzt (f:α->V) (X Y:List α):X.map f++Y.map f=(X++Y).map f:=List.map_append.symm
def Tree.lenA (f:α->V) (X:List α) (k:Tree ρ ω):Tree ρ ω:=.eqI (((X.map f).length:Nat):Int) ((X.length:Nat):Int) k
theorem yb6 (f:α->V) (X:List α):(((X.map f).length:Nat):Int)=((X.length:Nat):Int):=by simp
def Tree.lenB (f:α->V) (X:List α) (k:Tree ρ ω):Tree ρ ω:=.eqI (((X.map f).length - 0:Nat):Int) ((X.length:Nat):Int) k
theorem yb2 (f:α->V) (X:List α):(((X.map f).length - 0:Nat):Int)=((X.length:Nat):Int):=by simp
def Tree.lookA (f:α->V) (X:List α) (n:Nat) (k:α->Tree ρ ω):Tree ρ ω:=.look α (X[n]?) f ((X.map f)[n]?) k
theorem zwp (f:α->V) (X:List α) (n:Nat):(X.map f)[n]? =(X[n]?).map f:=by simp
def Tree.lookB (f:α->V) (X:List α) (n:Nat) (k:α->Tree ρ ω):Tree ρ ω:=.look α (X[n]?) f ((X.map f)[0+n]?) k
theorem za6 (f:α->V) (X:List α) (n:Nat):(X.map f)[0+n]? =(X[n]?).map f:=by simp
def Tree.lkX (f:α->V) (X:List α) (n:Nat) (x:α) (k:Tree ρ ω):Tree ρ ω:=.lk (f x) ((X.map f)[n]?) k
theorem zap (f:α->V) {X d t:List α} {x:α} (h:d++x::t=X):(X.map f)[((d.length:Nat):Int).toNat]? =some (f x):=by subst h;simp
def Tree.lkY (f:α->V) (X:List α) (n:Nat) (x:α) (k:Tree ρ ω):Tree ρ ω:=.lk (f x) ((X.map f)[0+n]?) k
theorem zy6 (f:α->V) {X d t:List α} {x:α} (h:d++x::t=X):(X.map f)[0+((d.length:Nat):Int).toNat]? =some (f x):=by subst h;simp
theorem za0 (f:α->V) {X:List α} {n:Nat} {x:α} (h:X[n]? =some x):(X.map f)[0+n]? =some (f x):=by simp [h]
def Tree.repA (f:α->V) (n:Nat) (z:α) (k:Tree ρ ω):Tree ρ ω:=.eqL (List.replicate n (f z)) ((List.replicate n z).map f) k
theorem zef (f:α->V) (n:Nat) (z:α):List.replicate n (f z)=(List.replicate n z).map f:=by simp
theorem za9 (f:α->V) (X:List α) (n:Nat) (y:α):(X.map f).set (0+n) (f y)=(X.set n y).map f:=by simp
def Tree.setN (f:α->V) (X:List α) (n:Nat) (y:α) (k:List α->Tree ρ ω):Tree ρ ω:=.eqN (List α) (X.set n y) (·.map f) ((X.map f).set (0+n) (f y)) k
theorem ltX {d t xs:List α} {x:α} (he:d++x::t=xs):decide (((d.length:Nat):Int)<((xs.length:Nat):Int))=true:=by
 subst he;simp;omega
theorem ltE (xs:List α):decide (((xs.length:Nat):Int)<((xs.length:Nat):Int))=false:=by simp
def zms (X:List Int):ByteArray:=⟨(X.map fun n=>UInt8.ofNat n.toNat).toArray⟩
theorem zfi:∀ X:List Int,ze5 (X.map (V.int .u8))=some (X.map fun n=>UInt8.ofNat n.toNat)
 | []=>rfl
 | x::X=>by simp only [List.map_cons,ze5,zwc,zfi X,Option.map_some]
def Tree.bytA (X:List Int) (k:Tree ρ ω):Tree ρ ω:=.byt (X.map (V.int .u8)) (X.map fun n=>UInt8.ofNat n.toNat) k
def Tree.lfA (o:ρ->ω) (r:ρ):Tree ρ ω:=.leaf r (o r)
def zo0 {α β γ:Type} (f:α->Option γ) (g:β->Option γ):α⊕β->Option γ | .inl a=>f a | .inr b=>g b
variable {T:Tab} {out:ρ->ω}
theorem bR {c:Bool} {t f:Tree ρ ω} (h:t.ok T out) (h':f.ok T out):(Tree.br c t f).ok T out:=⟨fun _=>h,fun _=>h'⟩
theorem cF {C:Ctr} {k:C.α->Tree ρ ω} (h:C.okF T) (h':∀ a,(k a).ok T out):(Tree.callF C k).ok T out:=⟨h,fun a _=>h' a⟩
theorem lP {L:Lct} {k:L.α->Tree ρ ω} (h:L.ok T) (h':∀ a,(k a).ok T out):(Tree.lp L k).ok T out:=⟨h,fun a _=>h' a⟩
theorem lQ {L:Lc2} {k:L.α->Tree ρ ω} {k':L.β->Tree ρ ω} (h:L.ok T) (h':∀ a,(k a).ok T out) (h'':∀ a,(k' a).ok T out):(Tree.lp2 L k k').ok T out:=⟨h,fun a _=>h' a,fun a _=>h'' a⟩
theorem sA {f:α->V} {X:List α} {k:Tree ρ ω} (h:k.ok T out):(Tree.segA f X k).ok T out:=⟨zzl _,h⟩
theorem lA {f:α->V} {X:List α} {k:Tree ρ ω} (h:k.ok T out):(Tree.lenA f X k).ok T out:=⟨yb6 _ _,h⟩
theorem lB {f:α->V} {X:List α} {k:Tree ρ ω} (h:k.ok T out):(Tree.lenB f X k).ok T out:=⟨yb2 _ _,h⟩
theorem gU {p:Prop} {d:Decidable p} {k:Tree ρ ω} (h:k.ok T out):(Tree.guard p d k).ok T out:=fun _=>h
theorem eO {f g:α->V} {X:List α} {k:Tree ρ ω} (hf:∀ a,(f a).erase=g a) (h:k.ok T out):(Tree.eraA f g X k).ok T out:=⟨zal hf X,h⟩
theorem kA {f:α->V} {X:List α} {n:Nat} {k:α->Tree ρ ω} (h:∀ a,(k a).ok T out):(Tree.lookA f X n k).ok T out:=⟨zwp _ _ _,fun a _=>h a⟩
theorem aA {f:α->V} {X Y:List α} {k:Tree ρ ω} (h:k.ok T out):(Tree.appA f X Y k).ok T out:=⟨zzt _ _ _,h⟩
def rv (g:α->V) (r:α):V×List (List V):=(g r,[])
def rB:Bool->V×List (List V):=rv V.bool
def rI:Int->V×List (List V):=rv (V.int .i64)
def sv (n:Nat) (l:List (Nat×V)):List V:=l.foldl (fun vs p=>vs.set p.1 p.2) (List.replicate n .gone)
theorem za7 {ρ:Type} {out:ρ->V×List (List V)} {f:FuncId} {h:HFunc} {args:List V} {bs:List (List V)} (hT:T f=some (.go h)) (hl:args.length=h.np) (t:Tree ρ (V×List (List V))) (he:funcM h args bs t zsv=t)
 {x:Option ρ} (hx:t.eval=x) (hok:t.ok T out) {r:ρ} (hr:x=some r):Run T f args bs=some (out r):=ya2 hT hl t he hok (by rw [hx];exact hr)
@[reducible] def V.I (n : Int) : V := .int .i64 n
end Go.Pm
namespace Go.Pm
variable {α β σ ε:Type}
theorem zam (n:Nat):((n:Nat):Int).toNat=n:=rfl
def SzOk (g:Int->Option Int) (n:Nat):Prop:=∀ left:Int,0<=left->left<=1048576->((n:Int)<=left->g left=some (left - n))/\(left<n->∃ r,g left=some r/\r<0)
theorem SzOk.of {g g':Int->Option Int} {n:Nat} (e:∀ l,g l=g' l) (h:SzOk g' n):SzOk g n:=fun l h1 h2=>by rw [e];exact h l h1 h2
theorem SzOk.fin:SzOk (fun v=>some v) 0:=fun l h1 h2=>⟨fun _=>by simp,fun h=>by omega⟩
theorem SzOk.seq {g g':Int->Option Int} {n m:Nat} (h:SzOk g n) (h':SzOk g' m):SzOk (fun left=>(g left).bind fun v=>bif decide (v<0) then some (-1) else g' v) (n+m):=by
 intro l h1 h2
 show ((((n+m:Nat):Int)<=l->((g l).bind fun v=>bif decide (v<0) then some (-1) else g' v)=some (l - ((n+m:Nat):Int)))/\(l<((n+m:Nat):Int)->∃ r,((g l).bind fun v=>bif decide (v<0) then some (-1) else g' v)=some r/\r<0))
 obtain ⟨ha,hb⟩:=h l h1 h2
 by_cases hn:(n:Int)<=l
 ·rw [ha hn]
  have hd:decide (l - n<0)=false:=by simp;omega
  simp only [Option.bind_some,hd,cond_false]
  obtain ⟨hc,hd⟩:=h' (l - n) (by omega) (by omega)
  refine ⟨fun h=> ?_,fun h=> ?_⟩
  ·rw [hc (by omega)];congr 1;omega
  ·exact hd (by omega)
 ·obtain ⟨r,hr,h0⟩:=hb (by omega)
  refine ⟨fun h=>by omega,fun _=> ?_⟩
  rw [hr]
  have hd:decide (r<0)=true:=by simp;exact h0
  exact ⟨-1,by simp only [Option.bind_some,hd,cond_true],by omega⟩
theorem SzOk.one {g:Int->Option Int} {n:Nat} (h:SzOk g n):SzOk (fun left=>(g left).bind fun v=>bif decide (v<0) then some (-1) else some v) (n+0):=SzOk.seq h SzOk.fin
theorem zvh {l:Int} {n:Nat} (h1:0<=l) (h2:l<=1048576) (hn:n<=9223372036854775807):IntKind.i64.wrap (l - (n:Int))=l - n:=zny (by omega) (by omega)
theorem SzOk.len {xs:List α} (hl:xs.length<=9223372036854775807):SzOk (fun left=>bif decide (IntKind.i64.wrap (left - ((xs.length:Nat):Int))<0) then some (-1) else some (IntKind.i64.wrap (left - ((xs.length:Nat):Int)))) xs.length:=by
 intro l h1 h2
 simp only [zvh h1 h2 hl]
 refine ⟨fun h=> ?_,fun h=> ?_⟩
 ·have hd:decide (l - (xs.length:Int)<0)=false:=by simp;omega
  rw [hd];rfl
 ·have hd:decide (l - (xs.length:Int)<0)=true:=by simp;omega
  rw [hd];exact ⟨-1,rfl,by omega⟩
def szL (f:α->Nat) (xs:List α):Nat:=xs.length+(xs.map f).sum
theorem zcy {f:α->Nat} {xs:List α} {x:α} (h:x∈xs):f x<=szL f xs:=by
 unfold szL
 induction xs with
 | nil=>cases h
 | cons y ys ih=>
   simp only [List.map_cons,List.sum_cons,List.length_cons]
   rcases List.mem_cons.1 h with rfl|h
   ·omega
   ·have:=ih h;omega
theorem zce {f:α->Nat} {xs:List α}:xs.length<=szL f xs:=by unfold szL;omega
theorem SzOk.list {f:α->Nat} {g:α->Int->Option Int} {xs:List α} (hl:xs.length<=9223372036854775807) (hg:∀ x∈xs,SzOk (g x) (f x)) {body:Int->α->Int->Option (Int⊕(Int×Int)⊕Int)} {last:Int->Option ((Int×Int)⊕Int)}
 (hb:∀ k x s,body k x s=(g x s).bind fun v=>bif decide (v<0) then some (.inr (.inl (v,k))) else some (.inl v)) (hlast:∀ s,last s=some (.inr s)):
 SzOk (fun left=>bif decide (IntKind.i64.wrap (left - ((xs.length:Nat):Int))<0) then some (-1) else
  (if xs.length<=9223372036854775806 then zb4 body last xs 0 (IntKind.i64.wrap (left - ((xs.length:Nat):Int))) else none).bind (zo0 (fun _=>some (-1)) (fun v=>some v))) (szL f xs):=by
 have key:∀ (ys:List α),(∀ x∈ys,SzOk (g x) (f x))->∀ (k l:Int),0<=l->l<=1048576->
  (((ys.map f).sum:Int)<=l->zb4 body last ys k l=some (.inr (l - (ys.map f).sum)))/\(l<(ys.map f).sum->∃ e,zb4 body last ys k l=some (.inl e)):=by
  intro ys
  induction ys with
  | nil=>intro _ k l h1 h2;exact ⟨fun _=>by simp [zb4,hlast],fun h=>by simp at h;omega⟩
  | cons y ys ih=>
    intro hy k l h1 h2
    obtain ⟨ha,hc⟩:=hy y (by simp) l h1 h2
    simp only [zb4,hb,List.map_cons,List.sum_cons]
    by_cases hn:(f y:Int)<=l
    ·have hd:decide (l - (f y:Int)<0)=false:=by simp;omega
     simp only [ha hn,Option.bind_some,hd,cond_false]
     obtain ⟨h3,h4⟩:=ih (fun x hx=>hy x (by simp [hx])) (k+1) (l - f y) (by omega) (by omega)
     exact ⟨fun h=>by rw [h3 (by omega)];congr 2;omega,fun h=>h4 (by omega)⟩
    ·obtain ⟨r,hr,h0⟩:=hc (by omega)
     have hd:decide (r<0)=true:=by simp;exact h0
     simp only [hr,Option.bind_some,hd,cond_true]
     exact ⟨fun h=>by omega,fun _=>⟨_,rfl⟩⟩
 intro l h1 h2
 simp only [zvh h1 h2 hl]
 by_cases hn:(xs.length:Int)<=l
 ·have hd:decide (l - (xs.length:Int)<0)=false:=by simp;omega
  simp only [hd,cond_false]
  rw [if_pos (by omega)]
  obtain ⟨h3,h4⟩:=key xs hg 0 (l - xs.length) (by omega) (by omega)
  unfold szL
  refine ⟨fun h=> ?_,fun h=> ?_⟩
  ·rw [h3 (by omega)];simp only [Option.bind_some,zo0];congr 1;omega
  ·obtain ⟨e,he⟩:=h4 (by omega)
   rw [he];exact ⟨-1,rfl,by omega⟩
 ·have hd:decide (l - (xs.length:Int)<0)=true:=by simp;omega
  simp only [hd,cond_true]
  exact ⟨fun h=>by unfold szL at h;omega,fun _=>⟨-1,rfl,by omega⟩⟩
theorem zn5 {body:Int->α->List α->Option (List α⊕ε)} {last:List α->Option ε} {xs:List α} (hb:∀ d x t s,d++x::t=xs->d.length<s.length->body ((d.length:Nat):Int) x s=some (.inl (s.set d.length x))) {s0:List α} (h0:s0.length=xs.length):
 zb4 body last xs 0 s0=last xs:=by
 have key:∀ (t d u:List α),d++t=xs->u.length=t.length->zb4 body last t ((d.length:Nat):Int) (d++u)=last xs:=by
  intro t
  induction t with
  | nil=>intro d u he hu;have hu:u=[]:=List.eq_nil_of_length_eq_zero hu;subst hu;simp at he;subst he;simp [zb4]
  | cons x t ih=>
    intro d u he hu
    cases u with
    | nil=>simp at hu
    | cons y u=>
      simp only [zb4]
      rw [hb d x t _ he (by simp)]
      have e:(d++y::u).set d.length x=(d ++ [x])++u:=by simp [List.set_append]
      simp only [Option.bind_some,e]
      have:=ih (d ++ [x]) u (by simpa using he) (by simpa using hu)
      simpa using this
 exact key xs [] s0 rfl h0
theorem zed {s:List α} {k:Nat} {y:α} (h:k<s.length):(s.set k y)[k]? =some y:=by simp [h]
theorem zyu {body:Int->α->Unit->Option (Unit⊕ε)} {last:Unit->Option ε} {xs:List α} (hb:∀ d x t,d++x::t=xs->body ((d.length:Nat):Int) x ()=some (.inl ())):zb4 body last xs 0 ()=last ():=by
 have key:∀ (t d:List α),d++t=xs->zb4 body last t ((d.length:Nat):Int) ()=last ():=by
  intro t
  induction t with
  | nil=>intro d _;simp [zb4]
  | cons x t ih=>
    intro d he
    simp only [zb4]
    rw [hb d x t he]
    simp only [Option.bind_some]
    have:=ih (d ++ [x]) (by simpa using he)
    simpa using this
 exact key xs [] rfl
end Go.Pm
namespace Go.Pm
set_option maxRecDepth 100000
def yf1:HFunc:=⟨2,4,true,[(2,none)],tx [] 0x8b02620221081100002612155030bd3762022118016ab134ae1020b21030026121⟩
def yfy:HFunc:=⟨2,5,true,[(3,none)],tx [] 0x84076202210811000076121b50304d35620221130168a20002162f4e20404729b210300761726221⟩
def yfp:HFunc:=⟨2,4,true,[(2,none)],tx [] 0x8b02620221081100002612155030bd3762022118016ab134ae1020b21030026121⟩
def yfz:HFunc:=⟨2,4,true,[(2,none)],tx [] 0x8b02620221081100002612155030bd3762022118016ab134ae1020b21030026121⟩
def ygi:HFunc:=⟨2,6,true,[(3,none)],tx [] 0x8a07620221081100007612145030ad3b62022112e0163820002302f4e20a04759b210811000076121b5030ad3562022112e01638200023e2f4e20a04779b210300761726221⟩
def ygu:HFunc:=⟨2,5,true,[(3,none)],tx [] 0x84076202210811000076121b50304d35620221130168a200021e4e204414729b210300761726221⟩
def zyi:HCode:=tx [] 0x307613080350720811000026121a50308d34620221d0160ec200023f2f4e202e8143883e5010a211b1040452e8d3b63ae10505211
def yg8:HFunc:=⟨2,7,true,[(2,none)],tx [zyi] 0x880262022104b525a0b03007612110811000026121b50308d356202211c0162e8133ae1020b21030026121⟩
def yg7:HFunc:=⟨2,6,true,[(3,none)],tx [] 0x8a07620221081100007612145030ad3b62022112e0163820002302f4e20a047b9b210811000076121b5030ad3562022112e01638200023e2f4e20a04759b210300761726221⟩
def zza:HCode:=tx [] 0x307613080350720811000026121a50308d34620221d0160ec20002402f4e202e4143843e5010a211b1040452e8d3b63ae10505211
def ygw:HFunc:=⟨2,7,true,[(2,none)],tx [zza] 0x880262022104b525a0b03007612110811000026121b50308d356202211c0162e8133ae1020b21030026121⟩
def ygb:HFunc:=⟨2,8,true,[(3,none)],tx [] 0x83076202210811000076121850303d3a62022110e016c2e20002312f4e2030470e9b210811000076121a50303d3462022110e016c2e20002302f4e203047c9b210811000076121450303d3b62022110e016c2e200028e4e2030472e9b210811000076121b50303d3562022110e016c2e200021e4e203414759b210300761726221⟩
def zyq:HCode:=tx [] 0x307613080350720811000026121a50308d34620221d0160ec200024e4e202ed1438d3e5010a211b1040452e8d3b63ae10505211
def ygt:HFunc:=⟨2,7,true,[(2,none)],tx [zyq] 0x880262022104b525a0b03007612110811000026121b50308d356202211c0162e8133ae1020b21030026121⟩
def yfh:HFunc:=⟨2,5,true,[(3,none)],tx [] 0x84076202210811000076121b50304d35620221130168a20002be4e20404719b210300761726221⟩
def ygr:HFunc:=⟨2,5,true,[(3,none)],tx [] 0x84076202210811000076121b50304d35620221130168a200021e4e204414779b210300761726221⟩
def zzd:HCode:=tx [] 0x307613080350720811000026121a50308d34620221d0160ec20002232f4e202e3143833e5010a211b1040452e8d3b63ae10505211
def ygk:HFunc:=⟨2,7,true,[(2,none)],tx [zzd] 0x880262022104b525a0b03007612110811000026121b50308d356202211c0162e8133ae1020b21030026121⟩
def yey:HFunc:=⟨2,6,true,[(3,none)],tx [] 0x8a07620221081100007612145030ad3b62022112e0163820002232f4e20a314729b210811000076121b5030ad3562022112e0163820002222f4e20a04709b210300761726221⟩
def zzc:HCode:=tx [] 0x307613080350720811000026121a50308d34620221d0160ec20002ce4e202e7e14387e3e5010a211b1040452e8d3b63ae10505211
def ygy:HFunc:=⟨2,7,true,[(2,none)],tx [zzc] 0x880262022104b525a0b03007612110811000026121b50308d356202211c0162e8133ae1020b21030026121⟩
def yft:HFunc:=⟨2,7,true,[(3,none)],tx [] 0x88076202210811000076121a50308d346202211c0162e320002c4e20804749b210811000076121450308d3b6202211c0162e3200022e4e208214759b210811000076121b50308d356202211c0162e32000234e208714719b210300761726221⟩
def yfr:HFunc:=⟨1,4,true,[(2,some (some 7))],tx [] 0x8b70a1a5a142214a00a549b042495214a00a5b9b042b95214a00a559b042595214a00a579b042795214a00a529b042295214a00a519b042195214a00a509b0420952103030303030303a27612103030303030303a2261716221⟩
def zz5:HCode:=tx [] 0xa07613040350720ed0a1aa4a3ec1001252f4e2ea1438a3e50105070321b1040b584d356aae10505211
def yfb:HFunc:=⟨1,5,true,[(1,none)],tx [zz5] 0x84016702210512a0b03007612118026a03030303030303ab382fa7e4ae10521a50016121⟩
def yg0:HFunc:=⟨1,4,true,[(2,some (some 3))],tx [] 0x8b7071a5714221a800a52941001ae4eb04229b214a00a519b042195214a00a509b04209521a503037276121a5030372261716221⟩
def zz3:HCode:=tx [] 0xa0761304035072c0e00aa413e2e043813e50105070821b1040b584d356aae10505211
def yfu:HFunc:=⟨1,5,true,[(1,none)],tx [zz3] 0x84016702210512a0b03007612118026a03817e4ae10521150016121⟩
def zyg:HCode:=tx [] 0xa0761304035072c0e00aa413e2e043813e50105070821b1040b584d356aae10505211
def yh4:HFunc:=⟨1,5,true,[(1,none)],tx [zyg] 0x84016702210512a0b03007612118026a1117e4ae10521150016121⟩
def ygq:HFunc:=⟨1,4,true,[(2,some (some 6))],tx [] 0x8b7041a54142214a00a5b9b042b9521a800a55941001342f4eb04259b21a800a57941001412f4eb04279b214a00a529b042295214a00a519b042195214a00a509b04209521031515030303427612103151503030342261716221⟩
def yfa:HFunc:=⟨1,4,true,[(2,some (some 8))],tx [] 0x8b7081a5814221a8041a52941001322f4eb414229b214a00a519b042195214a00a509b0420952103151503030303038276121031515030303030382261716221⟩
def zyx:HCode:=tx [] 0xa07613040350720ed081aa483ec1001422f4e2e8143883e50105070321b1040b584d356aae10505211
def yeg:HFunc:=⟨1,5,true,[(1,none)],tx [zyx] 0x84016702210512a0b03007612118026a03151503030303038b602f87e4ae10521850016121⟩
def ygh:HFunc:=⟨1,4,true,[(2,some (some 6))],tx [] 0x8b7041a5414221a800a5b941001342f4eb042b9b21a800a55941001412f4eb04259b214a00a579b042795214a00a529b042295214a00a519b042195214a00a509b04209521151503030303427612115150303030342261716221⟩
def zz7:HCode:=tx [] 0xa07613040350720ed041aa443ec1001432f4e2e4143843e50105070321b1040b584d356aae10505211
def yg1:HFunc:=⟨1,5,true,[(1,none)],tx [zz7] 0x84016702210512a0b03007612118026a1515030303034b502f47e4ae10521450016121⟩
def ygl:HFunc:=⟨1,4,true,[(2,some (some 13))],tx [] 0x8b70d1a5d14221a800a50e941001352f4eb0420e9b21a800a5c941001342f4eb042c9b21a800a52e941001332f4eb0422e9b21a8041a55941001322f4eb414259b214a00a579b042795214a00a529b042295214a00a519b042195214a00a509b0420952145158503151503030303030303d27612145158503151503030303030303d2261716221⟩
def zyj:HCode:=tx [] 0xa07613040350720ed0d1aa4d3ec1001262f4e2ed1438d3e50105070321b1040b584d356aae10505211
def yfw:HFunc:=⟨1,5,true,[(1,none)],tx [zyj] 0x84016702210512a0b03007612118026a45158503151503030303030303dbb82fd7e4ae10521d50016121⟩
def yeo:HFunc:=⟨1,4,true,[(2,some (some 2))],tx [] 0x8b7021a5214221a800a519410011b2f4eb04219b214a00a509b04209521d5032276121d50322261716221⟩
def yf9:HFunc:=⟨1,4,true,[(2,some (some 9))],tx [] 0x8b7031a5314221a8041a57941001322f4eb414279b214a00a529b042295214a00a519b042195214a00a509b04209521031515030303030303327612103151503030303030332261716221⟩
def zys:HCode:=tx [] 0xa07613040350720ed031aa433ec1001282f4e2e3143833e50105070321b1040b584d356aae10505211
def ygo:HFunc:=⟨1,5,true,[(1,none)],tx [zys] 0x84016702210512a0b03007612118026a0315150303030303033b682f37e4ae10521350016121⟩
def yfe:HFunc:=⟨1,4,true,[(2,some (some 17))],tx [] 0x8b707e1a57e142214a00a59e9b0429e95214a00a55e9b0425e95214a00a56e9b0426e95214a00a5d9b042d95214a00a50e9b0420e95214a00a5c9b042c9521a8031a52941001282f4eb314229b214a00a519b04219521a800a50941001272f4eb04209b210303030303030315150303030303031357e2761210303030303030315150303030303031357e2261716221⟩
def zym:HCode:=tx [] 0xa07613040350720ed07e1aa47e3ec1001fe4e2e7e14387e3e50105070321b1040b584d356aae10505211
def ygc:HFunc:=⟨1,5,true,[(1,none)],tx [zym] 0x84016702210512a0b03007612118026a0303030303030315150303030303031357ebb82f7e7e4ae105217e50016121⟩
def yh3:HFunc:=⟨1,4,true,[(2,some (some 11))],tx [] 0x8b70c1a5c142214a00a52e9b0422e95214a00a539b042395214a00a589b042895214a00a5a9b042a9521a800a549410015e4eb04249b21a8021a559410016e4eb214259b21a8071a51941001d4eb714219b214a00a509b04209521030303037e5d503a5030303c276121030303037e5d503a5030303c2261716221⟩
def yf7:HFunc:=⟨1,4,true,[(1,none)],tx [] 0x83ff3f2e6e0112c2f1ff3f3da03f82f80e6e782fac101b382f42e1dceb3302f3003852e3085307107241001242f4e112e30b730010cc7108301686ea101b41db302f300310421552e30bd376102211088016a61700341001242f4eb10e10b2175030bd326102211070016121⟩
def yf0:HFunc:=⟨1,3,true,[(1,none)],tx [] 0x8b01651001242f4e1072108382f302f382f352f372f372f342f352f382f362f332f302f322f372f332f332f322f322f392f69700161217580000000000000000f10005c326102211070016121⟩
def zyv:HCode:=tx [] 0xc0561302e03b07207ffff5fdefe0712c2f3ffff5fee1b2f2e09e1fe02c2f1fffe5f7eae101bfffe4f9e192f7e037f064f5ece1001192f4e3f004f6ebeae1f004fd162f04f003f0e3e097003fc9de7e3e02eb01003f3ee04082497e2fa202f672f6e2f692f742f692f612f772f202f3709e033e2f45e6e030b406e5202f792f732f752f622f202f470d03470e202f742f722f6f2f702fb700322c1001192f4e01b0005099735ce209e186030be5e35e8e162fae5e8e3e045e8e9095e8edeee7e3e5e8eb05e8e7e045e8e2495e8e5e06e04d190ec7e3eb02e042499e210312f1700b612856e04a6d190ec7e3eb02e042494211302f1700b61211b1040a5d2ed3460eaec04249b0b211
def ygn:HFunc:=⟨1,9,true,[(2,none)],tx [zyv] 0x82e0265022108a4b204a0b03005612117fffff6fbe202f0712c2f3fffff6f162f1f2f192f3e7edb01b1f77776f3e1e2f202f6e2f652f702f6f2fb7003f77775f91d2f1001192f4e700005fdefeae300005fee1b2f04100005f7eae1909e25977774f5ece202f742f6e2f652f732fb700337774f6ebe1001192f4e10004fd162f0400e22e97773fc9202f732f742f6c2f752f612f662fa70033773f2ede1001192f4e1003f3ee0408239772fa9e202f642f652f692f6c2f702f652f722f87003372f45e1001192f4e9eb6e0405289a70e202f642f652f6b2f732f612f4700372c1001192f4e112e04002a9cece711500261716221⟩
def zyk:HCode:=tx [] 0x30b613080340726e0762e170d030e803c042e313e40b050821b1040a52e8d3463aeb0405211
def yg2:HFunc:=⟨1,7,true,[(2,none)],tx [zyk] 0x8802650221042105a0b0300b612113056810010e4e2c147210700761210700261716221⟩
def yfl:HFunc:=⟨2,3,true,[(2,none)],tx [] 0x830262e170803ab03410017e4e20202f17050310a21070026121⟩
def yer:HFunc:=⟨1,3,true,[(1,none)],tx [] 0x8302f17001612108312f1700161217510261211070016121⟩
def zyp:HCode:=tx [] 0xd0361302e032201ffff5f7e1d2f0512c2fffff4f9efed037ffe4f5e2e1701b2f033ffe4f6eae162f031ce64fd192f10017e4ec003f0eceae4003fcbe0402ea091fe3f3202f672f6e2f692f742f692f612f772f202f3703e03fe2f897e03662fade1001ee4e202f4ee040ba196e5202f792f732f752f622f202f4709e03475e202f742f722f6f2f702fb7003226e10017e4e014000b0eeee70e5de205e1c6030ee5e36e8e7eae6e8e9e046e8ea096e8e6e0d04a198215ea07e1ad0b60303030303030315150303030303031357e2466e7e142e87e3e2e04211b1040c5132ed32e6121
def ygv:HFunc:=⟨1,12,true,[(2,none)],tx [zyp] 0x8d026b02210c2e4b72108a0b0300368ae86d04a624952113ffffff7fae262f0512c2f1ffffff7f192f252f1f2f03fbdeff6fce242f6e2f652f702f6f2f5702202f222f7000006fbe232fae3000006f162f222f041000006f3e4e19092590de503ffff5fee1e2fae031deff5f7e1d2f742f6e2f652f732f57021b2f222f80004f9efe0405e22e906e501fff4fd192f3e03eff3f0ece732f742f6c2f752f612f662f4702162f222f4003fcbe0402e2390350ff2f899e037f2fade642f652f692f6c2f702f652f722fa7027e222f202f4ee040b2890550a75e642f652f6b2f732f612fb702d222f226e04012a900501b2f1b2f719ea00761210700261716221⟩
def yf4:HFunc:=⟨2,12,true,[(4,none)],tx [] 0x82005612108100561210e59e6e0e3c65e04549d04749b2110810056121c59e6e0e32e65e045b9d047b9b21108100561212e59e6e0e3365e04559d04759b2110810056121359e6e0e3865e04579d04779b2110810056121859e6e0e3a65e04529d04729b2110810056121a59e6e0e3465e04519d04719b2110810056121459e6e0e3b65e04509d04709b2111005627761726721⟩
def zz2:HCode:=tx [] 0x307613080350720810026121a51ff3f39e00e412c2fff2f85ec200022a2f4e702fa6ea14302f4d0ea3e0b500520a72ea147238a3e015000102e2e711b1040452e8d3b63ae10505211
def yh2:HFunc:=⟨2,7,true,[(2,none)],tx [zz2] 0x82002612104b525a0b03007612110810026121b5c30e3562eae208ae10b21110026121⟩
def yfk:HFunc:=⟨2,8,true,[(4,none)],tx [] 0x820056121081005612185d00ea60e2e200021e2f4ec0452930472942110810056121a50e2e0e346c04519304719b2110810056121450e2e0e3b6c04509304709b2111005627761726721⟩
def zyr:HCode:=tx [] 0x307613080350720810026121a5ff2f85ec0e3412c2f702fa6e04302f4d0e13e0b500520a72e04723813e0150001033711b1040452e8d3b63ae10505211
def yf5:HFunc:=⟨2,7,true,[(2,none)],tx [zyr] 0x82002612104b525a0b03007612110810026121b5c30e3562eae208ae10b21110026121⟩
def zz0:HCode:=tx [] 0x307613080350720810026121a5ff2f85ec12e412c2f702fa6e04302f4d0e13e0b500520a72e04723813e0150001033711b1040452e8d3b63ae10505211
def yew:HFunc:=⟨2,7,true,[(2,none)],tx [zz0] 0x82002612104b525a0b03007612110810026121b5c30e3562eae208ae10b21110026121⟩
def yem:HFunc:=⟨2,11,true,[(4,none)],tx [] 0x8200561210810056121c55ed0e32e66e045b90e047b9b21108100561212e59e00e365ed200023c2f4e6e045590e0475942110810056121359e00e865ed20002492f4e6e045790e0477942110810056121855ed0e3a66e045290e04729b2110810056121a55ed0e3466e045190e04719b2110810056121455ed0e3b66e045090e04709b2111005627761726721⟩
def yev:HFunc:=⟨2,8,true,[(4,none)],tx [] 0x820056121081005612185d00ea60e2e200023a2f4ec414529341472942110810056121a50e2e0e346c04519304719b2110810056121450e2e0e3b6c04509304709b2111005627761726721⟩
def zz4:HCode:=tx [] 0x307613080350720810026121a51ff3f39e00e412c2fff2f85ec200024a2f4e702fa6e814302f4d0e83e0b500520a72e814723883e015000102e2e711b1040452e8d3b63ae10505211
def yfs:HFunc:=⟨2,7,true,[(2,none)],tx [zz4] 0x82002612104b525a0b03007612110810026121b5c30e3562eae208ae10b21110026121⟩
def yei:HFunc:=⟨2,11,true,[(4,none)],tx [] 0x8200561210810056121c59e00e2e65ed200023c2f4e6e045b90e047b9421108100561212e59e00e365ed20002492f4e6e045590e0475942110810056121355ed0e3866e045790e04779b2110810056121855ed0e3a66e045290e04729b2110810056121a55ed0e3466e045190e04719b2110810056121455ed0e3b66e045090e04709b2111005627761726721⟩
def zyy:HCode:=tx [] 0x307613080350720810026121a51ff3f39e00e412c2fff2f85ec200024b2f4e702fa6e414302f4d0e43e0b500520a72e414723843e015000102e2e711b1040452e8d3b63ae10505211
def yff:HFunc:=⟨2,7,true,[(2,none)],tx [zyy] 0x82002612104b525a0b03007612110810026121b5c30e3562eae208ae10b21110026121⟩
def yfn:HFunc:=⟨2,13,true,[(4,none)],tx [] 0x8200561210810056121d5ee00e0e67e5e200023d2f4e9e0450e96e0470e9421108100561210e5ee00ec67e5e200023c2f4e9e045c96e047c942110810056121c5ee00e2e67e5e200023b2f4e9e0452e96e0472e9421108100561212e5ee00e367e5e200023a2f4e9e4145596e41475942110810056121357e5e0e3869e045796e04779b2110810056121857e5e0e3a69e045296e04729b2110810056121a57e5e0e3469e045196e04719b2110810056121457e5e0e3b69e045096e04709b2111005627761726721⟩
def zz8:HCode:=tx [] 0x307613080350720810026121a51ff3f39e00e412c2fff2f85ec200022b2f4e702fa6ed14302f4d0ed3e0b500520a72ed147238d3e015000102e2e711b1040452e8d3b63ae10505211
def yfc:HFunc:=⟨2,7,true,[(2,none)],tx [zz8] 0x82002612104b525a0b03007612110810026121b5c30e3562eae208ae10b21110026121⟩
def yg4:HFunc:=⟨2,7,true,[(4,none)],tx [] 0x8200561210810056121a50e00e46c3200021f2f4e2e045198047194211081005612145c30e3b62e04509804709b2111005627761726721⟩
def yg5:HFunc:=⟨2,9,true,[(4,none)],tx [] 0x8200561210810056121356e00e86dc200023a2f4e0e4145792e4147794211081005612185dc0e3a60e045292e04729b2110810056121a5dc0e3460e045192e04719b211081005612145dc0e3b60e045092e04709b2111005627761726721⟩
def zz6:HCode:=tx [] 0x307613080350720810026121a51ff3f39e00e412c2fff2f85ec2000264e702fa6e314302f4d0e33e0b500520a72e314723833e015000102e2e711b1040452e8d3b63ae10505211
def yga:HFunc:=⟨2,7,true,[(2,none)],tx [zz6] 0x82002612104b525a0b03007612110810026121b5c30e3562eae208ae10b21110026121⟩
def yh5:HFunc:=⟨2,14,true,[(4,none)],tx [] 0x82005612108100561216e5ee9e0e3d67e0459e95e0479e9b2110810056121d5ee9e0e30e67e0455e95e0475e9b21108100561210e5ee9e0e3c67e0456e95e0476e9b2110810056121c5ee9e0e32e67e045d95e047d9b21108100561212e5ee9e0e3367e0450e95e0470e9b211081005612135ee9e0e3867e045c95e047c9b211081005612185de00ea6ee9e2000264e7e3145295e31472942110810056121a5ee9e12e467e045195e04719b211081005612145de00eb6ee9e200022c2f4e7e045095e0470942111005627761726721⟩
def zze:HCode:=tx [] 0x307613080350720810026121a51ff3f39e00e412c2fff2f85ec20002202f4e702fa6e7e14302f4d0e7e3e0b500520a72e7e1472387e3e015000102e2e711b1040452e8d3b63ae10505211
def yej:HFunc:=⟨2,7,true,[(2,none)],tx [zze] 0x82002612104b525a0b03007612110810026121b5c30e3562eae208ae10b21110026121⟩
def ygp:HFunc:=⟨2,13,true,[(4,none)],tx [] 0x8200561210810056121d57e5e0e30e69e0452e96e0472e9b21108100561210e57e5e0e3c69e045396e04739b2110810056121c57e5e0e32e69e045896e04789b21108100561212e57e5e0e3369e045a96e047a9b211081005612135ee00e867e5e200023e4e9e045496e047494211081005612185ee00ea67e5e2000294e9e2145596e21475942110810056121a5ee00e467e5e20002de4e9e7145196e71471942110810056121457e5e0e3b69e045096e04709b2111005627761726721⟩
def yep:HFunc:=⟨1,10,true,[(2,none)],tx [] 0x82002612108100261212e55e56e00e312c2fa7dc2000284e220e100144e012c14004c14bb7110810026121350ec0e386b0a072110e046c1001a4e4c147210e40c1a030303037e5d503a5030303c2b6c100144e2c14521d0560e1001b4ec100144e2c14521082002612185030cd3a6502211d0760ec2000254e502c145211000006f30076121100261716221⟩
def tabL:List (FuncId×Body):=[(22,.go yf1),(9,.go yfy),(62,.go yfp),(48,.go yfz),(46,.go ygi),(63,.go ygu),(47,.go yg8),(64,.go yg7),(49,.go ygw),(33,.go ygb),(23,.go ygt),(10,.go yfh),(35,.go ygr),(34,.go ygk),(24,.go yey),(11,.go ygy),(4,.go yft),(37,.go yfr),(26,.go yfb),(13,.go yg0),(65,.go yfu),(52,.go yh4),(50,.go ygq),(66,.go yfa),(51,.go yeg),(67,.go ygh),(53,.go yg1),(38,.go ygl),(27,.go yfw),(14,.go yeo),(40,.go yf9),(39,.go ygo),(28,.go yfe),(15,.go ygc),(6,.go yh3),(36,.go yf7),(25,.go yf0),(12,.go ygn),(5,.go yg2),(17,.prim zf0),(16,.go yfl),(18,.go yer),(7,.go ygv),(42,.go yf4),(30,.go yh2),(19,.go yfk),(73,.go yf5),(60,.go yew),(58,.go yem),(74,.go yev),(59,.go yfs),(75,.go yei),(61,.go yff),(43,.go yfn),(31,.go yfc),(20,.go yg4),(45,.go yg5),(44,.go yga),(32,.go yh5),(21,.go yej),(8,.go ygp),(3,.go yep)]
def tab:Tab:=fun f=>tabL.lookup f
theorem yko:tab 22=some (.go yf1):=rfl
theorem ynd:tab 9=some (.go yfy):=rfl
theorem yn7:tab 62=some (.go yfp):=rfl
theorem yjf:tab 48=some (.go yfz):=rfl
theorem yj0:tab 46=some (.go ygi):=rfl
theorem ym8:tab 63=some (.go ygu):=rfl
theorem yl5:tab 47=some (.go yg8):=rfl
theorem ykb:tab 64=some (.go yg7):=rfl
theorem ylq:tab 49=some (.go ygw):=rfl
theorem ykf:tab 33=some (.go ygb):=rfl
theorem yky:tab 23=some (.go ygt):=rfl
theorem yng:tab 10=some (.go yfh):=rfl
theorem ymf:tab 35=some (.go ygr):=rfl
theorem ymo:tab 34=some (.go ygk):=rfl
theorem yj1:tab 24=some (.go yey):=rfl
theorem ym1:tab 11=some (.go ygy):=rfl
theorem ymz:tab 4=some (.go yft):=rfl
theorem ylj:tab 37=some (.go yfr):=rfl
theorem ylo:tab 26=some (.go yfb):=rfl
theorem yl8:tab 13=some (.go yg0):=rfl
theorem ykt:tab 65=some (.go yfu):=rfl
theorem ynk:tab 52=some (.go yh4):=rfl
theorem yme:tab 50=some (.go ygq):=rfl
theorem yn3:tab 66=some (.go yfa):=rfl
theorem yj4:tab 51=some (.go yeg):=rfl
theorem ylz:tab 67=some (.go ygh):=rfl
theorem ykg:tab 53=some (.go yg1):=rfl
theorem ym4:tab 38=some (.go ygl):=rfl
theorem ymx:tab 27=some (.go yfw):=rfl
theorem ylr:tab 14=some (.go yeo):=rfl
theorem yk9:tab 40=some (.go yf9):=rfl
theorem yj7:tab 39=some (.go ygo):=rfl
theorem ykp:tab 28=some (.go yfe):=rfl
theorem ymq:tab 15=some (.go ygc):=rfl
theorem yn0:tab 6=some (.go yh3):=rfl
theorem ylw:tab 36=some (.go yf7):=rfl
theorem yk6:tab 25=some (.go yf0):=rfl
theorem ylg:tab 12=some (.go ygn):=rfl
theorem yjk:tab 5=some (.go yg2):=rfl
theorem yis:tab 17=some (.prim zf0):=rfl
theorem ymb:tab 16=some (.go yfl):=rfl
theorem yn1:tab 18=some (.go yer):=rfl
theorem ykx:tab 7=some (.go ygv):=rfl
theorem yn2:tab 42=some (.go yf4):=rfl
theorem yiy:tab 30=some (.go yh2):=rfl
theorem ymc:tab 19=some (.go yfk):=rfl
theorem yo1:tab 73=some (.go yf5):=rfl
theorem yl7:tab 60=some (.go yew):=rfl
theorem yku:tab 58=some (.go yem):=rfl
theorem yna:tab 74=some (.go yev):=rfl
theorem ynu:tab 59=some (.go yfs):=rfl
theorem ykc:tab 75=some (.go yei):=rfl
theorem yn4:tab 61=some (.go yff):=rfl
theorem ykl:tab 43=some (.go yfn):=rfl
theorem ylv:tab 31=some (.go yfc):=rfl
theorem yjx:tab 20=some (.go yg4):=rfl
theorem yld:tab 45=some (.go yg5):=rfl
theorem ykz:tab 44=some (.go yga):=rfl
theorem ykn:tab 32=some (.go yh5):=rfl
theorem yne:tab 21=some (.go yej):=rfl
theorem yjm:tab 8=some (.go ygp):=rfl
theorem ylf:tab 3=some (.go yep):=rfl
end Go.Pm
