/- Proved: the law FnBusied answers true at all arguments, for every operating system that has started; no conditions beyond the row's own. -/
import Derived.Test.YtgbigcobmiapcaaMc
import Derived.Laws.Rows
import Derived.Laws.BytesString
import Derived.Laws.Strings
set_option linter.unusedVariables false
set_option linter.unusedSimpArgs false
namespace Go.Pm
def Out (B:Base) (n:Nat) (ts:List (Option Nat)) (a:Act) (s1:St) (v:V) (val:Value) (w':World):Prop:=
 ∃ x1 FV FC FX G,x1.w=w'/\x1.st=s1/\SR B x1 FV FC FX/\Tied B ts n x1 a/\Pend x1 val v G/\∀ b,FX.count b=(cat v.cells.length G).count b
variable {P:Program} {B:Base} {x:Cx} {FV FC:Nat->Nat->List Nat} {FX:List Nat} {a:Act} {ts:List (Option Nat)} {n:Nat}
theorem zb6 (m:Nat):cat m (fun _=>([]:List Nat))=[]:=by
 induction m with
 | zero=>rfl
 | succ m ih=>rw [zid,ih];rfl
theorem Out.simple (h:SR B x FV FC []) (ht:Tied B ts n x a) {val v} (hp:Pend x val v fun _=>[]):Out B n ts a x.st v val x.w:=
 ⟨x,FV,FC,[],fun _=>[],rfl,rfl,h,ht,hp,fun b=>by rw [zb6]⟩
def zc6 (P:Program) (o:Oper) (a:Act) (w:World) (K:Value->World->Prop):Prop:=o.wp P a w (fun a' w'=>∃ val,a'=a.put o.dst val/\K val w') (fun _ _ _=>False)
theorem za9 {o:Oper} {w w':World} {val} {K:Value->World->Prop} (hr:(execOp a.eval o).run P w=.ok (.value val) w') (h:K val w'):zc6 P o a w K:=by
 unfold zc6 Oper.wp;rw [hr];exact ⟨val,rfl,h⟩
theorem zq8 {o:Oper} {w w':World} {K:Value->World->Prop} (hr:(execOp a.eval o).run P w=.ok .skip w') (h:K undef w'):zc6 P o a w K:=by
 unfold zc6 Oper.wp;rw [hr];exact ⟨undef,rfl,h⟩
theorem zji {val:Value}:Pend x val .gone fun _=>[]:=⟨trivial,fun c hc=>by
 have:c=0:=by simpa [V.cells] using hc
 subst this;exact rfl⟩
theorem zb1 {val k m} {G} (h:Pend x val (.int k m) G):val=.int k m:=by
 have:=h.cells 0 (by simp [V.cells]);have hv:VR x.w x.I val (.int k m) (G 0):=this;generalize G 0=F at hv;cases hv;rfl
theorem zd5 {val b} {G} (h:Pend x val (.bool b) G):val=.bool b:=by
 have:=h.cells 0 (by simp [V.cells]);have hv:VR x.w x.I val (.bool b) (G 0):=this;generalize G 0=F at hv;cases hv;rfl
theorem zf4 {val b} {G} (h:Pend x val (.str b) G):val=.string b:=by
 have:=h.cells 0 (by simp [V.cells]);have hv:VR x.w x.I val (.str b) (G 0):=this;generalize G 0=F at hv;cases hv;rfl
theorem zcl {k m}:Pend x (.int k m) (.int k m) fun _=>[]:=Pend.leaf (VR.int k m)
theorem zey {b}:Pend x (.bool b) (.bool b) fun _=>[]:=Pend.leaf (VR.bool b)
theorem znk {b}:Pend x (.string b) (.str b) fun _=>[]:=Pend.leaf (VR.str b)
theorem zxp (h:SR B x FV FC []) (ht:Tied B ts n x a) {o:Oper} {y oy} (ho:o.op=.move y\/o.op=.assign y) (hy:za1 ts y oy=true) {v} (hr:x.st.rd oy=some v):
 zc6 P o a x.w (Out B n ts a x.st v):=by
 refine za9 (val:=a.eval y) (w':=x.w) ?_ (Out.simple h ht (zaq h ht hy hr))
 rcases ho with ho|ho <;> simp [execOp,ho]
theorem yfl (h:SR B x FV FC []) (ht:Tied B ts n x a) {o:Oper} {c y z oc oy oz} (ho:o.op=.pick c y z) (hc:za1 ts c oc=true) (hy:za1 ts y oy=true) (hz:za1 ts z oz=true)
 {t v} (h1:x.st.rd oc=some (.bool t)) (h2:x.st.rd (if t then oy else oz)=some v):zc6 P o a x.w (Out B n ts a x.st v):=by
 have e:=zd5 (zaq h ht hc h1)
 refine za9 (val:=if t then a.eval y else a.eval z) (w':=x.w) ?_ (Out.simple h ht ?_)
 ·simp [execOp,ho,e,asBool]
 ·cases t
  ·exact zaq h ht hz h2
  ·exact zaq h ht hy h2
def zfn:V->Value
 | .int k m=>.int k m
 | .bool b=>.bool b
 | .str s=>.string s
 | _=>undef
theorem ybb {v:V} (h:zgb v=true):Pend x (zfn v) v fun _=>[]:=by
 cases v <;> first|(cases h;done)|exact zcl|exact zey|exact znk
theorem zuk {val v} {G} (hp:Pend x val v G) (h:zgb v=true):val=zfn v:=by
 cases v <;> first|(cases h;done)|exact zb1 hp|exact zd5 hp|exact zf4 hp
theorem zyt {op:BinOp} {k:IntKind} {p q:Int} {v:V} (h:zps op k p q=some v) (w:World) (t:TypeId):
 (binOp op t (.int k p) (.int k q)).run P w=.ok (zfn v) w/\zgb v=true:=by
 cases op <;> simp only [zps,Option.some.injEq] at h
 case quo=>split at h <;> cases h;rename_i hq;exact ⟨by simp [binOp,Op.intDiv,hq,zfn],rfl⟩
 case rem=>split at h <;> cases h;rename_i hq;exact ⟨by simp [binOp,Op.intDiv,hq,zfn],rfl⟩
 case eql=>subst h;exact ⟨by simp only [binOp,ne_eq,not_true,if_false,Op.intCmp,zfn,Sem.run_pure];congr 2,rfl⟩
 case neq=>subst h;exact ⟨by simp only [binOp,ne_eq,not_true,if_false,Op.intCmp,zfn,Sem.run_pure];congr 2;rw [Bool.eq_iff_iff];simp,rfl⟩
 all_goals first
  | (subst h;refine ⟨?_,rfl⟩;simp [binOp,Op.intArith,zfn];done)
  | (subst h;refine ⟨?_,rfl⟩;simp [binOp,Op.intBits,zfn];done)
  | (subst h;refine ⟨?_,rfl⟩;simp [binOp,Op.intCmp,zfn];done)
  | (cases h;done)
theorem ygr {op:BinOp} {u v r:V} (h:zw8 op u v=some r) (w:World) (t:TypeId) (y z:Operand):
 (do eqGuard op t y z (zfn u) (zfn v);binOp op t (zfn u) (zfn v):Sem Value).run P w=.ok (zfn r) w/\zgb r=true/\zgb u=true/\zgb v=true:=by
 have hguard:zgb u=true->(eqGuard op t y z (zfn u) (zfn v)).run P w=.ok () w:=by
  intro hu
  unfold eqGuard
  cases u <;> first|(cases hu;done)|(simp only [zfn];split <;> simp)
 have go:zgb u=true->zgb v=true->(binOp op t (zfn u) (zfn v)).run P w=.ok (zfn r) w->zgb r=true->
  (do eqGuard op t y z (zfn u) (zfn v);binOp op t (zfn u) (zfn v):Sem Value).run P w=.ok (zfn r) w/\zgb r=true/\zgb u=true/\zgb v=true:=by
  intro h1 h2 h3 h4
  refine ⟨?_,h4,h1,h2⟩
  rw [Sem.run_bind,hguard h1]
  exact h3
 unfold zw8 at h
 split at h
 ·rename_i k p k' q
  split at h
  ·split at h
   ·cases h
   ·cases h
    rename_i hq
    exact go rfl rfl (by simp [binOp,Op.shift,zfn,hq]) rfl
  ·split at h
   ·cases h
   ·cases h
    rename_i hq
    exact go rfl rfl (by simp [binOp,Op.shift,zfn,hq]) rfl
  ·split at h
   ·rename_i hk
    subst hk
    obtain ⟨h1,h2⟩:=zyt h w t
    exact go rfl rfl h1 h2
   ·cases h
 ·rename_i p q
  split at h
  ·split at h
   ·rename_i hl
    cases h
    refine go rfl rfl ?_ rfl
    have hl':¬(9223372036854775807<((p.size+q.size:Nat):Int)):=by omega
    simp only [zfn,binOp,Op.stringOp]
    have e64:IntKind.i64.max=9223372036854775807:=by decide
    rw [e64,if_neg (by omega)]
    rfl
   ·cases h
  ·cases h
   exact go rfl rfl (by simp [binOp,Op.stringOp,zfn]) rfl
  ·cases h
   exact go rfl rfl (by simp [binOp,Op.stringOp,zfn]) rfl
  ·cases h
 ·cases h
theorem yl2 (h:SR B x FV FC []) (ht:Tied B ts n x a) {o:Oper} {op t y z t' oy oz} (ho:o.op=.binOp op t y z t') (hy:za1 ts y oy=true) (hz:za1 ts z oz=true)
 {u v r} (h1:x.st.rd oy=some u) (h2:x.st.rd oz=some v) (h3:zw8 op u v=some r):zc6 P o a x.w (Out B n ts a x.st r):=by
 obtain ⟨k1,k2,k3,k4⟩:=ygr (P:=P) h3 x.w t y z
 have e1:=zuk (zaq h ht hy h1) k3
 have e2:=zuk (zaq h ht hz h2) k4
 refine za9 (val:=zfn r) (w':=x.w) ?_ (Out.simple h ht (ybb k2))
 simp only [execOp,ho,e1,e2,Sem.run_bind,k1,Result.andThen_ok,Sem.run_pure]
theorem zfl {t:TypeId} (hu:P.underlying t=some .bool) (p q:Bool) (w:World):(Op.equal t (.bool p) (.bool q)).run P w=.ok (p == q) w:=by
 have e:Op.equal t (.bool p) (.bool q)=Op.equalIn (9999+1) t (.bool p) (.bool q):=rfl
 rw [e,Op.equalIn,Sem.run_bind,run_underlying hu]
 rfl
theorem ylr (h:SR B x FV FC []) (ht:Tied B ts n x a) {o:Oper} {t y z t' oy oz} {neg:Bool} (ho:o.op=.binOp (if neg then .neq else .eql) t y z t') (hy:za1 ts y oy=true) (hz:za1 ts z oz=true)
 (hu:P.underlying t=some .bool) {p q} (h1:x.st.rd oy=some (.bool p)) (h2:x.st.rd oz=some (.bool q)):zc6 P o a x.w (Out B n ts a x.st (.bool (neg.xor (p == q)))):=by
 have e1:=zd5 (zaq h ht hy h1)
 have e2:=zd5 (zaq h ht hz h2)
 refine za9 (val:=.bool (neg.xor (p == q))) (w':=x.w) ?_ (Out.simple h ht zey)
 have hg:∀ op,(eqGuard op t y z (.bool p) (.bool q)).run P x.w=.ok () x.w:=fun op=>by unfold eqGuard;split <;> simp
 simp only [execOp,ho,e1,e2,Sem.run_bind,hg,Result.andThen_ok]
 cases neg
 ·simp only [Bool.false_eq_true,if_false,binOp,Sem.run_bind,zfl hu,Result.andThen_ok,Sem.run_pure,Bool.false_xor]
 ·simp only [if_true,binOp,Sem.run_bind,zfl hu,Result.andThen_ok,Sem.run_pure,Bool.true_xor]
theorem yot (h:SR B x FV FC []) (ht:Tied B ts n x a) {o:Oper} {op t y oy} (ho:o.op=.unOp op t y) (hy:za1 ts y oy=true)
 {u r} (h1:x.st.rd oy=some u) (h3:unV op u=some r):zc6 P o a x.w (Out B n ts a x.st r):=by
 have hp:=zaq h ht hy h1
 unfold unV at h3
 split at h3
 ·split at h3
  ·cases h3
   refine za9 (val:=.bool _) (w':=x.w) ?_ (Out.simple h ht zey)
   simp [execOp,ho,zd5 hp,Op.unary]
  ·cases h3
 ·split at h3
  ·cases h3
   refine za9 (val:=.int _ _) (w':=x.w) ?_ (Out.simple h ht zcl)
   simp [execOp,ho,zb1 hp,Op.unary,Op.intArith]
  ·cases h3
 ·cases h3
theorem ygf (h:SR B x FV FC []) (ht:Tied B ts n x a) {o:Oper} {s d y oy k} {e:TypeDesc} (ho:o.op=.convert s d y) (hy:za1 ts y oy=true) (hs:P.underlying s=some e) (hd:P.underlying d=some (.int k))
 {k' m} (h1:x.st.rd oy=some (.int k' m)):zc6 P o a x.w (Out B n ts a x.st (.int k (k.wrap m))):=by
 have e1:=zb1 (zaq h ht hy h1)
 refine za9 (val:=.int k (k.wrap m)) (w':=x.w) ?_ (Out.simple h ht zcl)
 simp [execOp,ho,e1,convert,run_underlying hs,run_underlying hd,Conv.intToInt]
theorem zpv (h:SR B x FV FC []) (ht:Tied B ts n x a) {o:Oper} {ats y z oy oz} (mx:Bool) (ho:o.op=.call { callee:=.builtin (if mx then .max else .min),args:= #[y,z],argTypes:=ats }) (hy:za1 ts y oy=true) (hz:za1 ts z oz=true)
 {k p k' q} (h1:x.st.rd oy=some (.int k p)) (h2:x.st.rd oz=some (.int k' q)):zc6 P o a x.w (Out B n ts a x.st (.int k (if mx then(if p<q then q else p) else(if q<p then q else p)))):=by
 have e1:=zb1 (zaq h ht hy h1)
 have e2:=zb1 (zaq h ht hz h2)
 cases mx
 ·refine za9 (val:=.int k (if q<p then q else p)) (w':=x.w) ?_ (Out.simple h ht zcl)
  simp [execOp,ho,e1,e2,resolve,invoke,builtin,Builtin.min_,Builtin.min2]
 ·refine za9 (val:=.int k (if p<q then q else p)) (w':=x.w) ?_ (Out.simple h ht zcl)
  simp [execOp,ho,e1,e2,resolve,invoke,builtin,Builtin.max_,Builtin.max2]
theorem yht (h:SR B x FV FC []) (ht:Tied B ts n x a) {o:Oper} {ats y z u oy oz ou} (ho:o.op=.call { callee:=.builtin .min,args:= #[y,z,u],argTypes:=ats }) (hy:za1 ts y oy=true) (hz:za1 ts z oz=true) (hu:za1 ts u ou=true)
 {k p k' q k2 r} (h1:x.st.rd oy=some (.int k p)) (h2:x.st.rd oz=some (.int k' q)) (h3:x.st.rd ou=some (.int k2 r)):
 zc6 P o a x.w (Out B n ts a x.st (.int k (if r<(if q<p then q else p) then r else(if q<p then q else p)))):=by
 have e1:=zb1 (zaq h ht hy h1)
 have e2:=zb1 (zaq h ht hz h2)
 have e3:=zb1 (zaq h ht hu h3)
 refine za9 (val:=.int k (if r<(if q<p then q else p) then r else(if q<p then q else p))) (w':=x.w) ?_ (Out.simple h ht zcl)
 simp [execOp,ho,e1,e2,e3,resolve,invoke,builtin,Builtin.min_,Builtin.min2]
theorem yhl (h:SR B x FV FC []) (ht:Tied B ts n x a) {o:Oper} {t y z oy oz} (ho:o.op=.index t y z) (hy:za1 ts y oy=true) (hz:za1 ts z oz=true) (hu:P.underlying t=some .string)
 {s k m u} (h1:x.st.rd oy=some (.str s)) (h2:x.st.rd oz=some (.int k m)) (hm:0<=m) (h3:s.data.toList[m.toNat]? =some u):zc6 P o a x.w (Out B n ts a x.st (zpk u)):=by
 have e1:=zf4 (zaq h ht hy h1)
 have e2:=zb1 (zaq h ht hz h2)
 refine za9 (val:=.int .u8 u.toNat) (w':=x.w) ?_ (Out.simple h ht zcl)
 have e3:s[m.toNat]? =some u:=by
  obtain ⟨hl,he⟩:=List.getElem?_eq_some_iff.1 h3
  have hl':m.toNat<s.size:=by simpa using hl
  rw [ByteArray.getElem?_lt' s _ hl',<- he];rfl
 simp [execOp,ho,e1,e2,Instr.index,asIntOf,run_underlying hu,hm,e3]
end Go.Pm
namespace Go.Pm
variable {P:Program} {B:Base} {x:Cx} {FV FC:Nat->Nat->List Nat} {FX:List Nat} {a:Act} {ts:List (Option Nat)} {n:Nat}
theorem zag {val v} {G:Nat->List Nat} (h:Pend x val v G) (hl:v.leaf=true):x.LR1 val v (G 0):=by
 have:=h.cells 0 (by cases v <;> first|(cases hl;done)|simp [V.cells])
 cases v <;> first|(cases hl;done)|exact this
theorem ylb (h:SR B x FV FC []) (ht:Tied B ts n x a) {o:Oper} {y oy} (ho:o.op=.nilCheck y) (hy:za1 ts y oy=true) {v} (hr:x.st.rd oy=some v)
 (hv:(∃ r c up,v=.ref r c up)\/(∃ cs c,v=.eptr cs c)\/(∃ f cs,v=.fn f cs)\/(∃ f cs,v=.clo f cs)):zc6 P o a x.w (Out B n ts a x.st v):=by
 have hp:=zaq h ht hy hr
 refine za9 (val:=a.eval y) (w':=x.w) ?_ (Out.simple h ht hp)
 rcases hv with ⟨r,c,up,rfl⟩|⟨cs,c,rfl⟩|⟨f,cs,rfl⟩|⟨f,cs,rfl⟩
 ·have hL:=zag hp rfl
  cases up with
  | nil=>obtain ⟨_,k,cs,_,_,e⟩:=hL;simp [execOp,ho,e]
  | cons s up=>obtain ⟨_,_,ad,m,cap,_,e⟩:=hL;simp [execOp,ho,e]
 ·obtain ⟨_,b,o',e,_⟩:=zag hp rfl;simp [execOp,ho,e]
 ·obtain ⟨_,cs',e,_⟩:=zag hp rfl;simp [execOp,ho,e]
 ·have hL:=zag hp rfl
  have hV:VR x.w x.I (a.eval y) (.clo f cs) []:=hL
  generalize hu:a.eval y=u at hV
  cases hV
  simp [execOp,ho,hu]
theorem zq7:∀ (vs:List V) (as:List Value),as.length=vs.length->(∀ j,j<vs.length->zcs (as.getD j undef) (vs.getD j .gone))->(∀ j,j<vs.length->(vs.getD j .gone).cells1.length=(as.getD j undef).cells.size)->
 ∀ i,i<vs.length->∃ off,∀ j,j<(vs.getD i .gone).cells1.length->off+j<(vs.flatMap V.cells1).length/\(vs.flatMap V.cells1).getD (off+j) .gone=(vs.getD i .gone).cells1.getD j .gone/\
   (as.flatMap fun v=>v.cells.toList).getD (off+j) undef=(as.getD i undef).cells.toList.getD j undef
 | [],as,_,_,_,i,hi=>by simp at hi
 | v::vs,[],hl,_,_,_,_=>by simp at hl
 | v::vs,u::as,hl,hs,hc,i,hi=>by
   have hc0:=hc 0 (by simp)
   simp only [List.getD_cons_zero] at hc0
   cases i with
   | zero=>
     refine ⟨0,fun j hj=> ?_⟩
     simp only [List.getD_cons_zero,Nat.zero_add] at hj ⊢
     simp only [List.flatMap_cons,List.length_append]
     refine ⟨by omega,?_,?_⟩
     ·simp only [List.getD,List.getElem?_append,hj,if_true]
     ·have:j<u.cells.toList.length:=by simp;omega
      simp only [List.getD,List.getElem?_append,this,if_true]
   | succ i=>
     obtain ⟨off,h⟩:=zq7 vs as (by simpa using hl) (fun j hj=>by have:=hs (j+1) (by simpa using hj);simpa using this) (fun j hj=>by have:=hc (j+1) (by simpa using hj);simpa using this) i (by simpa using hi)
     refine ⟨v.cells1.length+off,fun j hj=> ?_⟩
     simp only [List.getD_cons_succ] at hj ⊢
     obtain ⟨h1,h2,h3⟩:=h j hj
     simp only [List.flatMap_cons,List.length_append]
     refine ⟨by omega,?_,?_⟩
     ·rw [<- h2]
      simp only [List.getD,List.getElem?_append]
      rw [if_neg (by omega)]
      congr 2;omega
     ·rw [<- h3]
      have e1:u.cells.toList.length=v.cells1.length:=by simp;omega
      simp only [List.getD,List.getElem?_append,e1]
      rw [if_neg (by omega)]
      congr 2;omega
theorem ziu {v:Value} {y:V} (h:zcs v y):y.cells1.length=v.cells.size:=by
 cases y with
 | agg cs=>obtain ⟨a,rfl,h2⟩:=h;simp only [V.cells1,Value.cells];omega
 | _=>(have e:v.cells= #[v]:=h);rw [e];rfl
theorem zmq {val:Value} {vs:List V} {i:Nat} {y:V} (h:Pend x val (.tup vs) fun _=>[]) (hy:vs[i]? =some y):∃ arr u,val=.tuple arr/\arr[i]? =some u/\Pend x u y fun _=>[]:=by
 obtain ⟨arr,rfl,h2,h3⟩:=h.shape
 obtain ⟨hi,hy'⟩:=List.getElem?_eq_some_iff.1 hy
 have hia:i<arr.size:=by omega
 have hget:∀ j,arr.toList.getD j undef=arr.getD j undef:=fun j=>by simp [List.getD,Array.getD_eq_getD_getElem?]
 obtain ⟨off,hoff⟩:=zq7 vs arr.toList (by simpa using h2) (fun j hj=>by rw [hget];exact h3 j hj) (fun j hj=>by rw [hget];exact ziu (h3 j hj)) i hi
 have hyd:vs.getD i .gone=y:=by rw [za3 hi,hy']
 rw [hyd] at hoff
 have hsh:=h3 i hi
 rw [hyd] at hsh
 have hu:arr.getD i undef=arr[i]:=by simp [Array.getD,hia]
 have hnt:∀ ws,y ≠ .tup ws:=by
  intro ws e
  subst e
  obtain ⟨h4,h5,_⟩:=hoff 0 (by simp [V.cells1])
  have:=h.cells (off+0) (by simpa [V.cells] using h4)
  simp only [V.cells] at this
  rw [h5] at this
  exact this.elim
 have hcells:y.cells=y.cells1:=by cases y <;> first|exact absurd rfl (hnt _)|rfl
 refine ⟨arr,arr[i],rfl,by simp [hia],?_,?_⟩
 ·rw [hu] at hsh
  cases y <;> first|exact absurd rfl (hnt _)|trivial|exact hsh
 ·intro c hc
  rw [hcells] at hc ⊢
  obtain ⟨h4,h5,h6⟩:=hoff c hc
  have:=h.cells (off+c) (by simpa [V.cells] using h4)
  simp only [V.cells] at this
  rw [h5] at this
  have e:zac (.tuple arr) (.tup vs) (off+c)=zac arr[i] y c:=by
   have e0:zac (.tuple arr) (.tup vs) (off+c)=(arr.toList.flatMap fun v=>v.cells.toList).getD (off+c) undef:=rfl
   rw [e0,h6,hget,hu]
   rw [hu] at hsh
   by_cases hag:∃ cs,y=.agg cs
   ·obtain ⟨cs,rfl⟩:=hag
    obtain ⟨b,hb,hb2⟩:=hsh
    rw [hb];rfl
   ·have h1:arr[i].cells= #[arr[i]]:=by cases y <;> first|exact absurd rfl (hnt _)|exact absurd ⟨_,rfl⟩ hag|exact hsh
    have h2:y.cells1=[y]:=by cases y <;> first|exact absurd ⟨_,rfl⟩ hag|rfl
    have h3:zac arr[i] y c=arr[i]:=by cases y <;> first|exact absurd rfl (hnt _)|exact absurd ⟨_,rfl⟩ hag|rfl
    rw [h2] at hc
    have:c=0:=by simpa using hc
    subst this
    rw [h3,h1];rfl
  rw [e] at this
  exact this
theorem ylh (h:SR B x FV FC []) (ht:Tied B ts n x a) {o:Oper} {y oy i} (ho:o.op=.extract y i) (hy:za1 ts y oy=true) {vs v} (hr:x.st.rd oy=some (.tup vs)) (hv:vs[i]? =some v):
 zc6 P o a x.w (Out B n ts a x.st v):=by
 obtain ⟨arr,u,h1,h2,h3⟩:=zmq (zaq h ht hy hr) hv
 exact za9 (val:=u) (w':=x.w) (by simp [execOp,ho,h1,Instr.extract,h2]) (Out.simple h ht h3)
def yj2 (P:Program) (t:TypeId):Option Bool:=
 match P.underlying t with
 | some (.struct _)=>some true
 | some (.array _ _)=>some true
 | some _=>some false
 | none=>none
def zcn (P:Program) (t:TypeId):Option Nat:=(P.info? t).map (·.size)
theorem zdy {t b} (h:yj2 P t=some b) (w:World):(isAgg t).run P w=.ok b w:=by
 unfold yj2 at h
 cases hu:P.underlying t with
 | none=>rw [hu] at h;cases h
 | some d=>
   rw [hu] at h
   unfold isAgg
   rw [Sem.run_bind,run_underlying hu]
   cases d <;> cases h <;> rfl
theorem zb7 {t m} (h:zcn P t=some m) (w:World):(sizeOf t).run P w=.ok m w:=by
 unfold zcn at h
 cases hi:P.info? t with
 | none=>rw [hi] at h;cases h
 | some i=>rw [hi] at h;cases h;simp [sizeOf,typeInfo,hi]
def zdb (P:Program) (t:TypeId):Option Nat->Bool
 | none=>yj2 P t == some false
 | some m=>yj2 P t == some true&&zcn P t == some m
def zwv (cs:List V) (off:Nat):Option Nat->Option V
 | none=>cs[off]?
 | some k=>if off+k<=cs.length then some (.agg ((cs.drop off).take k)) else none
theorem zwo {val:Value} {cs:List V} {t:TypeId} {m:Option Nat} {off:Nat} {v:V} (h:Pend x val (.agg cs) fun _=>[]) (hm:zdb P t m=true)
 (hv:zwv cs off m=some v) (w:World):
 ∃ arr u,val=.agg arr/\(part t arr off).run P w=.ok u w/\Pend x u v fun _=>[]:=by
 obtain ⟨arr,rfl,hsz⟩:=h.shape
 have hcell:∀ c,c<cs.length->x.LR1 (arr.getD c undef) (cs.getD c .gone) []:=by
  intro c hc
  have:=h.cells c hc
  have e:zac (.agg arr) (.agg cs) c=arr.getD c undef:=by simp [zac,zdl,List.getD,Array.getD_eq_getD_getElem?]
  rw [e] at this;exact this
 cases m with
 | none=>
   simp only [zdb,beq_iff_eq] at hm
   simp only [zwv] at hv
   obtain ⟨hlt,he⟩:=List.getElem?_eq_some_iff.1 hv
   have hla:off<arr.size:=by omega
   refine ⟨arr,arr[off],rfl,?_,?_⟩
   ·unfold part
    simp [zdy hm,hla]
   ·have:=hcell off hlt
    rw [za3 hlt,he] at this
    have e:arr.getD off undef=arr[off]:=by simp [Array.getD,hla]
    rw [e] at this
    exact Pend.leaf this
 | some k=>
   simp only [zdb,Bool.and_eq_true,beq_iff_eq] at hm
   simp only [zwv] at hv
   split at hv
   ·rename_i hle
    cases hv
    refine ⟨arr,.agg (arr.extract off (off+k)),rfl,?_,⟨⟨_,rfl,?_⟩,?_⟩⟩
    ·unfold part
     simp [zdy hm.1,zb7 hm.2]
    ·simp;omega
    ·intro c hc
     have hlen:((cs.drop off).take k).length=k:=by simp;omega
     simp only [V.cells,hlen] at hc ⊢
     have e1:((cs.drop off).take k).getD c .gone=cs.getD (off+c) .gone:=by simp [List.getD,hc]
     have e2:zac (.agg (arr.extract off (off+k))) (.agg ((cs.drop off).take k)) c=arr.getD (off+c) undef:=by
      simp only [zac,zdl,List.getD,Array.getD_eq_getD_getElem?,Array.getElem?_toList,Array.getElem?_extract]
      rw [if_pos (by omega)]
     rw [e1,e2]
     exact hcell _ (by omega)
   ·cases hv
theorem ygg (h:SR B x FV FC []) (ht:Tied B ts n x a) {o:Oper} {y oy t f fs} {fl:Field} {m:Option Nat} (ho:o.op=.field t y f) (hy:za1 ts y oy=true) (hu:P.underlying t=some (.struct fs)) (hf:fs[f]? =some fl)
 (hm:zdb P fl.type m=true) {cs v} (hr:x.st.rd oy=some (.agg cs))
 (hv:zwv cs fl.offset m=some v):
 zc6 P o a x.w (Out B n ts a x.st v):=by
 obtain ⟨arr,u,h1,h2,h3⟩:=zwo (P:=P) (zaq h ht hy hr) hm hv x.w
 exact za9 (val:=u) (w':=x.w) (by simp [execOp,ho,h1,Instr.field,run_underlying hu,hf,asAgg,h2]) (Out.simple h ht h3)
end Go.Pm
