/- Proved: the law FnBusied answers true at all arguments, for every operating system that has started; no conditions beyond the row's own. -/
import Derived.Test.YtgbigcobmiapcaaMh
import Derived.Orders
set_option linter.unusedVariables false
set_option linter.unusedSimpArgs false
namespace Go.Pm
variable {P:Program} {B:Base} {x:Cx} {FV FC:Nat->Nat->List Nat} {FX:List Nat} {a:Act} {ts:List (Option Nat)} {n:Nat} {Q:Exit->Act->World->Prop}
theorem zjn {s:St} {i:Nat} (hg:s.vars.getD i .gone=.gone):∀ {up:List zbv} {cs:List V},s.cont (.var i) up=some cs->up=[]/\cs=[.gone]
 | [],cs,h=>by
   rcases za6 (show s.root (.var i)=some cs from h) with ⟨j,h1,_,rfl⟩|⟨k,h1,_⟩
   ·cases h1;rw [hg];exact ⟨rfl,rfl⟩
   ·cases h1
 | (k,e,c)::up,cs,h=>by
   obtain ⟨os,xs,ho,hc,hown,_⟩:=zaf h
   obtain ⟨_,rfl⟩:=zjn hg ho
   have:c=0:=by simpa using hc
   subst this
   cases hown
theorem yaw {i:Nat} (hg:x.st.vars.getD i .gone=.gone) {v z F} (hL:x.LR1 v z F):zbe (· ≠ .var i) z:=by
 cases z with
 | hd e r c up lo hi=>
   obtain ⟨_,xs,h1,_⟩:=hL
   intro h0
   subst h0
   obtain ⟨cs,h2,h3,h4⟩:=zba h1
   obtain ⟨_,rfl⟩:=zjn hg h2
   have:c=0:=by simpa using h3
   subst this
   cases h4
 | ref r c up=>
   intro h0
   subst h0
   cases up with
   | nil=>obtain ⟨_,k,cs,h1,_⟩:=hL;cases h1
   | cons s up=>
     obtain ⟨_,⟨cs,h1⟩,_⟩:=hL
     have:=(zjn hg h1).1
     cases this
 | fn f caps=>intro j k _ _ h;cases h
 | _=>trivial
theorem SR.hangs (h:SR B x FV FC FX) {i:Nat} (hg:x.st.vars.getD i .gone=.gone):∀ j,j<x.st.vars.length->∀ c,zbe (· ≠ .var i) ((x.st.vars.getD j .gone).cells.getD c .gone):=by
 intro j hj c
 by_cases hc:c<(x.st.vars.getD j .gone).cells.length
 ·exact yaw hg (h.vars j hj c hc)
 ·rw [zai hc];trivial
theorem yjz (h:SR B x FV FC FX) {k:Nat} {val v G} (hk:k<x.st.vars.length) (hgone:x.st.vars.getD k .gone=.gone) (hp:Pend x val v G) (hF:∀ b,FX.count b=(cat v.cells.length G).count b):
 ∃ FV',SR B ⟨x.w,x.I,x.φ,upd x.tm k val,{ x.st with vars:=x.st.vars.set k v }⟩ FV' FC []:=
 ⟨_,h.setVar (FX':=[]) hk hgone (h.hangs hgone) (h.boxkept) (fun c hc=>yaw hgone (hp.cells c hc)) hp fun b=>by rw [hF b];simp⟩
theorem zqi {ts:List (Option Nat)} {i j:Nat} {v:Option Nat}:(ts.set i v).getD j none=if j=i/\j<ts.length then v else ts.getD j none:=by
 simp only [List.getD,List.getElem?_set]
 by_cases h:i=j
 ·subst h
  by_cases hl:i<ts.length
  ·simp [hl]
  ·simp [hl]
 ·have:¬ j=i:=fun h'=>h h'.symm
  simp [h,this]
def zi5 (ts:List (Option Nat)) (n ns i:Nat) (dst d:Option Nat):Bool:=
 match dst,d with
 | none,none=>ts.getD (ns+i) none == none
 | some t,none=>decide (t<n)&&ts.getD (ns+i) none == some t&&(ts.set (ns+i) none).all (· != some t)
 | some t,some k=>decide (t<n)&&decide (k<ns)&&ts.getD k none == some t&&(ts.set k none).all (· != some t)&&ts.getD (ns+i) none == none
 | none,some _=>false
theorem zmr (h:SR B x FV FC FX) (ht:Tied B ts n x a) {val:Value} {v:V} {G:Nat->List Nat} (hp:Pend x val v G) (hF:∀ b,FX.count b=(cat v.cells.length G).count b)
 {dst d:Option Nat} {ns i:Nat} (hd:zi5 ts n ns i dst d=true) (hi:ns+i<ts.length) (hns:ns<=ts.length) (hgone:x.st.vars.getD (ns+i) .gone=.gone) {s2:St} (hs:x.st.destD ns (ns+i) d v=some s2):
 ∃ x' FV' FC',x'.w=x.w/\x'.st=s2/\SR B x' FV' FC' []/\Tied B ts n x' (a.put dst val):=by
 cases d with
 | none=>
   simp only [St.destD,Option.some.injEq] at hs
   subst hs
   obtain ⟨FV',h1⟩:=yjz h (by rw [<- ht.len];exact hi) hgone hp hF
   refine ⟨⟨x.w,x.I,x.φ,upd x.tm (ns+i) val,{ x.st with vars:=x.st.vars.set (ns+i) v }⟩,FV',FC,rfl,rfl,h1,⟨by simp [ht.len],fun j t hj=> ?_,?_,?_,ht.nbx,ht.phi,ht.nk,fun u v hu=> ?_⟩⟩
   ·cases dst with
    | none=>
      simp only [zi5,beq_iff_eq] at hd
      have hne:j≠ns+i:=fun e=>by subst e;rw [hd] at hj;cases hj
      simp only [zam _ _ hne]
      exact ht.tie j t hj
    | some u=>
      simp only [zi5,Bool.and_eq_true,decide_eq_true_eq,beq_iff_eq] at hd
      obtain ⟨⟨hu,h2⟩,h3⟩:=hd
      by_cases e:j=ns+i
      ·subst e
       rw [h2] at hj;cases hj
       simp only [zaj]
       rw [zm6 (by rw [ht.size];exact hu)]
      ·simp only [zam _ _ e]
       have h4:(ts.set (ns+i) none).getD j none=some t:=by rw [zqi,if_neg (fun h=>e h.1)];exact hj
       rw [zfa (zzl h3 h4)]
       exact ht.tie j t hj
   ·cases dst <;> simp [Act.put,ht.size]
   ·cases dst <;> exact ht.defers
   ·refine ⟨?_,(ht.kp u v hu).2⟩
    cases dst with
    | none=>exact (ht.kp u v hu).1
    | some t=>
      simp only [zi5,Bool.and_eq_true,decide_eq_true_eq,beq_iff_eq] at hd
      rw [zfa (zzm (ht.kp u v hu).2 hd.2)]
      exact (ht.kp u v hu).1
 | some k=>
   cases dst with
   | none=>cases hd
   | some t=>
     simp only [zi5,Bool.and_eq_true,decide_eq_true_eq,beq_iff_eq] at hd
     obtain ⟨⟨⟨⟨h1,h2⟩,h3⟩,h4⟩,h5⟩:=hd
     have hdst:zjp ts n (some t) (some k)=some (ts ++ [none]):=by
      simp only [zjp]
      rw [if_pos ⟨h1,by omega,h3,h4⟩]
     have hs':x.st.dest ns (some k) v=some { s2 with vars:=s2.vars ++ [.gone] }:=by
      simp only [St.destD] at hs
      simp only [St.dest]
      split at hs
      ·rename_i y s1 hset
       cases hs
       rfl
      ·cases hs
     obtain ⟨x2,FV2,FC2,e1,e2,e3,e4,e5,e6⟩:=zko h ht hp hF hdst hs'
     have hlen:x2.st.vars.length=s2.vars.length+1:=by rw [e2];simp
     have hlast:x2.st.vars.getD s2.vars.length .gone=.gone:=by rw [e2];simp [List.getD]
     have hold:∀ j,j<s2.vars.length->x2.st.vars.getD j .gone=s2.vars.getD j .gone:=fun j hj=>by
      rw [e2];simp only [List.getD];rw [List.getElem?_append_left hj]
     have hbx:x2.st.boxes=s2.boxes:=by rw [e2]
     obtain ⟨f1,_⟩:=e5.forget (st':=s2) (K:=(· ≠ .var s2.vars.length)) (f:=fun v=>v) zdr (fun z hz=>absurd rfl hz) (fun _=>false) (by omega) (by rw [hbx];exact Nat.le_refl _)
      (fun j hj=>by rw [hold j hj];simp [zch]) (fun j hj=>by rw [hbx])
      (fun j hj hl=>⟨by
       have:j≠s2.vars.length:=fun e=>hj (by rw [e])
       omega,rfl⟩) (fun j _ hj=>by rw [<- hbx];exact hj)
      (fun j hj c=>by
       rw [<- hold j hj]
       exact e5.hangs hlast j (by omega) c)
      (fun j hj c=>by
       rw [<- hbx] at hj ⊢
       exact e5.boxkept j hj c)
     refine ⟨⟨x2.w,x2.I,x2.φ,x2.tm,s2⟩,_,FC2,e1,rfl,f1,⟨by have:=e6.len;simp at this;show ts.length=s2.vars.length;omega,fun j t' hj=> ?_,e6.size,e6.defers,by show B.nb<=s2.boxes.length;rw [<- hbx];exact e6.nbx,e6.phi,ht.nk,fun u v hu=>by
      have h1:=e6.kp u v hu
      rw [List.take_append_of_le_length ht.nk] at h1
      exact h1⟩⟩
     refine e6.tie j t' ?_
     rw [zbn]
     split
     ·rename_i hj'
      rw [hj',zai (Nat.lt_irrefl _)] at hj;cases hj
     ·exact hj
def yei (a:Act):Option Nat->Value
 | some t=>a.tmps.getD t undef
 | none=>undef
theorem zgy:∀ (ties:List (Option Nat)) {x:Cx} {FV FC} {ts},SR B x FV FC []->Tied B ts n x a->
 ∃ x' FV',x'.w=x.w/\x'.st={ x.st with vars:=x.st.vars++List.replicate ties.length .gone }/\SR B x' FV' FC []/\Tied B (ts++ties) n x' a
 | [],x,FV,FC,ts,h,ht=>⟨x,FV,rfl,by simp,h,by simpa using ht⟩
 | t::ties,x,FV,FC,ts,h,ht=>by
   have h1:=h.push (val:=yei a t) (v:=.gone) (G:=fun _=>[]) (FX':=[]) zji (fun b=>by rw [zb6];simp)
   have ht1:Tied B (ts ++ [t]) n (x.push (yei a t) .gone) a:=by
    refine ⟨by simp [Cx.push,St.push,ht.len],fun i t' hi=> ?_,ht.size,ht.defers,ht.nbx,ht.phi,(zcm ht t).1,(zcm ht t).2⟩
    rw [zbn] at hi
    split at hi
    ·rename_i he
     subst hi
     rw [he,ht.len]
     simp only [Cx.push,zaj];rfl
    ·rename_i hne
     rw [ht.len] at hne
     simp only [Cx.push,zam _ _ hne]
     exact ht.tie i t' hi
   obtain ⟨x',FV',e1,e2,e3,e4⟩:=zgy ties h1 ht1
   refine ⟨x',FV',e1,?_,e3,by simpa using e4⟩
   rw [e2]
   simp [Cx.push,St.push,List.replicate_succ]
end Go.Pm
namespace Go.Pm
variable {P:Program} {B:Base} {x:Cx} {FV FC:Nat->Nat->List Nat} {FX:List Nat} {a:Act} {ts:List (Option Nat)} {n:Nat} {Q:Exit->Act->World->Prop}
def yl1 (opers:Array Oper) (its:List Item) (i:Nat):Option Nat:=
 if its.any (fun it=>it.i == i&&it.d.isSome) then none else(opers[i]?).bind (·.dst)
def zl0 (opers:Array Oper) (its:List Item):List (Option Nat):=(List.range opers.size).map (yl1 opers its)
def zru (o:Oper):List Nat:=(o.after.toList.filter (Region.binds .any ·)).map (·.on)
def zyu (P:Program) (n:Nat) (tsF:List (Option Nat)) (ns:Nat) (opers:Array Oper) (all seen:List Item) (it:Item):Bool:=
 it.keep.length == opers.size &&
 (match opers[it.i]? with
  | some o=>zjd opers tsF o.guard it.g&&zdd P tsF o.op it.h&&zi5 tsF n ns it.i o.dst it.d&&(it.st||it.d.isNone) &&
   (List.range opers.size).all fun j=> !(it.keep.getD j false)||(zru o).contains j||(zru o).any fun l=>all.any fun q=>q.i == l&&q.keep.getD j false
  | none=>false) &&
 (List.range opers.size).all (fun j=> !(it.keep.getD j false)||seen.any (·.i == j)) &&
 seen.all (fun q=>q.i != it.i)
def zcc (P:Program) (n:Nat) (tsF:List (Option Nat)) (ns:Nat) (opers:Array Oper) (all:List Item):List Item->List Item->Bool
 | _,[]=>true
 | seen,it::its=>zyu P n tsF ns opers all seen it&&zcc P n tsF ns opers all (it::seen) its
def zua (md:Region.Mode) (opers:Array Oper) (ord:List Nat):Bool:=
 (List.range opers.size).all fun i=>match opers[i]? with
  | some o=>o.after.toList.all fun e=> !(Region.binds md e)||(decide (e.on<opers.size)&&decide (ord.idxOf e.on<ord.idxOf i))
  | none=>true
def zb4:List Item->List Item
 | []=>[]
 | q::T=>if q.st then [] else q::zb4 T
def dropPure:List Item->List Item
 | []=>[]
 | q::T=>if q.st then q::T else dropPure T
def yj8:Nat->List (List Item)->Bool
 | 0,TS=>TS.all (·.isEmpty)
 | k+1,TS=>TS.all (·.isEmpty)||TS.all fun T=>match T with
   | []=>false
   | S::rest=>S.st&&rest.all (fun q=>TS.any fun T'=>match T' with|h::_=>h.i == q.i||q.keep.getD h.i false | []=>false) &&
     ((TS.filter fun T'=>match T' with|h::_=>h.i == S.i | []=>false).all fun T'=>(zb4 T'.tail).map (·.i) == (zb4 rest).map (·.i)) &&
     yj8 k ((TS.filter fun T'=>match T' with|h::_=>h.i == S.i | []=>false).map fun T'=>dropPure T'.tail)
def ztw (P:Program) (n:Nat) (ts:List (Option Nat)) (opers:Array Oper) (m:Nat) (its:List Item) (perms:List (List Nat)):Bool:=
 m == opers.size&&zcc P n (ts++zl0 opers its) ts.length opers its [] its&&(List.range opers.size).all (fun j=>its.any (·.i == j)) &&
 perms.all (fun p=>zcc P n (ts++zl0 opers its) ts.length opers its [] (zer its p)&&its.all (fun q=>(zer its p).any (·.i == q.i))&&(zb4 (zer its p)).map (·.i) == (zb4 its).map (·.i)) &&
 yj8 (its.length+1) ((its::perms.map (zer its)).map dropPure) &&
 zua .any opers (List.range opers.size)&&zua .text opers (List.range opers.size)&&zua .gc opers (Region.linearise .gc opers 0)
theorem St.ext' {s s':St} (hb:s.boxes=s'.boxes) (hl:s.vars.length=s'.vars.length) (h:∀ i,s.vars.getD i .gone=s'.vars.getD i .gone):s=s':=by
 obtain ⟨vs,bs⟩:=s
 obtain ⟨vs',bs'⟩:=s'
 simp only at hb hl h
 subst hb
 congr 1
 apply List.ext_getElem hl
 intro i h1 h2
 have:=h i
 rw [za3 h1,za3 h2] at this
 exact this
theorem zbz {W:St} {ns m:Nat} {keep:List Bool} (hl:W.vars.length=ns+m) (hk:keep.length=m) (i:Nat):
 (W.only ns keep).vars.getD i .gone=if i<ns\/keep.getD (i - ns) false=true then W.vars.getD i .gone else .gone:=by
 have htl:(W.vars.take ns).length=ns:=by simp;omega
 have hL:(W.only ns keep).vars.getD i .gone=((W.vars.take ns++List.zipWith (fun b v=>if b then v else V.gone) keep (W.vars.drop ns))[i]?).getD .gone:=rfl
 rw [hL]
 by_cases h:i<ns
 ·rw [if_pos (.inl h),List.getElem?_append_left (by omega),List.getElem?_take,if_pos h];rfl
 ·rw [List.getElem?_append_right (by omega),htl,List.getElem?_zipWith,List.getElem?_drop]
  have e:ns+(i - ns)=i:=by omega
  rw [e]
  by_cases hi:i - ns<keep.length
  ·have hi':i<W.vars.length:=by omega
   have hk2:keep.getD (i - ns) false=keep[i - ns]:=by simp [List.getD,List.getElem?_eq_getElem hi]
   rw [List.getElem?_eq_getElem hi,List.getElem?_eq_getElem hi']
   simp only [Option.getD_some]
   by_cases hb:keep[i - ns]=true
   ·rw [if_pos hb,if_pos (.inr (hk2.trans hb)),za3 hi']
   ·rw [if_neg hb,if_neg]
    rintro (h1|h1)
    ·exact h h1
    ·exact hb (hk2 ▸ h1)
  ·have hk2:keep.getD (i - ns) false=false:=by simp [List.getD,List.getElem?_eq_none (show keep.length<=i - ns by omega)]
   rw [List.getElem?_eq_none (show keep.length<=i - ns by omega),if_neg]
   ·rfl
   ·rintro (h1|h1)
    ·exact h h1
    ·rw [hk2] at h1;cases h1
theorem zc9 {W:St} {ns m:Nat} {keep:List Bool} (hl:W.vars.length=ns+m) (hk:keep.length=m):(W.only ns keep).vars.length=ns+m:=by
 simp only [St.only,List.length_append,List.length_take,List.length_zipWith,List.length_drop];omega
theorem zmi {W:St} {ns m:Nat} {k1 k2:List Bool} (hl:W.vars.length=ns+m) (h1:k1.length=m) (h2:k2.length=m) (hs:∀ j,k1.getD j false=true->k2.getD j false=true):
 Ext (fun i=>ns<=i/\k1.getD (i - ns) false=false) (W.only ns k1) (W.only ns k2):=by
 refine ⟨by rw [zc9 hl h1,zc9 hl h2],rfl,fun i hi=> ?_,fun i hi=> ?_⟩
 ·rw [zbz hl h1,zbz hl h2]
  by_cases h:i<ns
  ·simp [h]
  ·have:k1.getD (i - ns) false=true:=by
    cases hk:k1.getD (i - ns) false
    ·exact (hi ⟨by omega,hk⟩).elim
    ·rfl
   rw [if_pos (.inr (hs _ this)),if_pos (.inr this)]
 ·rw [zbz hl h1,if_neg]
  rintro (h|h)
  ·omega
  ·rw [hi.2] at h;cases h
theorem zqj {W:St} {ns m:Nat} {k:List Bool} (hl:W.vars.length=ns+m) (hk:k.length=m) (h:∀ j,j<m->k.getD j false=true):W.only ns k=W:=by
 refine St.ext' rfl (by rw [zc9 hl hk,hl]) fun i=> ?_
 rw [zbz hl hk]
 by_cases hi:i<ns
 ·rw [if_pos (.inl hi)]
 ·by_cases h2:i - ns<m
  ·rw [if_pos (.inr (h _ h2))]
  ·rw [if_neg]
   ·rw [zai (by omega)]
   ·rintro (h3|h3)
    ·exact hi h3
    ·rw [show k.getD (i - ns) false=false from by simp [List.getD,List.getElem?_eq_none (show k.length<=i - ns by omega)]] at h3;cases h3
theorem zgg {l:List V} {i k:Nat} {v:V}:(l.set k v).getD i .gone=if i=k/\i<l.length then v else l.getD i .gone:=by
 simp only [List.getD,List.getElem?_set]
 by_cases h:k=i
 ·subst h
  by_cases hl:k<l.length
  ·simp [hl]
  ·simp [hl]
 ·have:¬ i=k:=fun h'=>h h'.symm
  simp [h,this]
theorem zd4 {l:List Bool} {i k:Nat}:(l.set k true).getD i false=if i=k/\i<l.length then true else l.getD i false:=by
 simp only [List.getD,List.getElem?_set]
 by_cases h:k=i
 ·subst h
  by_cases hl:k<l.length
  ·simp [hl]
  ·simp [hl]
 ·have:¬ i=k:=fun h'=>h h'.symm
  simp [h,this]
theorem ycw {W:St} {ns m i:Nat} {k:List Bool} (hl:W.vars.length=ns+m) (hk:k.length=m) (hi:i<m):
 { W.only ns k with vars:=(W.only ns k).vars.set (ns+i) (W.vars.getD (ns+i) .gone) }=W.only ns (k.set i true):=by
 refine St.ext' rfl (by simp only [List.length_set];rw [zc9 hl hk,zc9 hl (by simpa using hk)]) fun j=> ?_
 rw [zgg,zbz hl hk,zbz (m:=m) hl (by simpa using hk),zc9 hl hk,zd4]
 by_cases e:j=ns+i
 ·subst e
  have h1:ns+i - ns=i:=by omega
  rw [if_pos ⟨rfl,by omega⟩,if_pos]
  right;rw [if_pos ⟨h1,by omega⟩]
 ·rw [if_neg (fun h=>e h.1)]
  by_cases hj:j<ns
  ·simp [hj]
  ·have:¬ j - ns=i:=by omega
   have e2:(if j - ns=i/\j - ns<k.length then true else k.getD (j - ns) false)=k.getD (j - ns) false:=if_neg (fun h=>this h.1)
   simp only [e2]
theorem ziz {W:St} {ns m i:Nat} {k:List Bool} {v:V} (hl:W.vars.length=ns+m) (hk:k.length=m) (hi:k.getD i false=false):
 ({ W with vars:=W.vars.set (ns+i) v }:St).only ns k=W.only ns k:=by
 have hl':({ W with vars:=W.vars.set (ns+i) v }:St).vars.length=ns+m:=by simpa using hl
 refine St.ext' rfl (by rw [zc9 hl' hk,zc9 hl hk]) fun j=> ?_
 rw [zbz hl' hk,zbz hl hk]
 split
 ·rename_i h
  simp only
  rw [zgg,if_neg]
  rintro ⟨h1,_⟩
  subst h1
  rcases h with h|h
  ·omega
  ·rw [show ns+i - ns=i by omega,hi] at h;cases h
 ·rfl
section
variable {tsF:List (Option Nat)} {ns:Nat} {opers:Array Oper} {all:List Item}
structure ItemOk (P:Program) (n:Nat) (tsF:List (Option Nat)) (ns:Nat) (opers:Array Oper) (all:List Item) (it:Item) (o:Oper):Prop where
 klen:it.keep.length=opers.size
 at':opers[it.i]? =some o
 guard:zjd opers tsF o.guard it.g=true
 op:zdd P tsF o.op it.h=true
 dst:zi5 tsF n ns it.i o.dst it.d=true
 pure:it.st=false->it.d=none
 deps:∀ j,it.keep.getD j false=true->j∈zru o\/∃ l∈zru o,∃ q∈all,q.i=l/\q.keep.getD j false=true
structure SeenOk (opers:Array Oper) (seen:List Item) (it:Item):Prop where
 keep:∀ j,it.keep.getD j false=true->∃ q∈seen,q.i=j
 ne:∀ q∈seen,q.i≠it.i
theorem keep_lt {k:List Bool} {j:Nat} (h:k.getD j false=true):j<k.length:=by
 refine Classical.byContradiction fun hn=> ?_
 simp [List.getD,List.getElem?_eq_none (Nat.le_of_not_lt hn)] at h
theorem okItem_some {seen:List Item} {it:Item} (h:zyu P n tsF ns opers all seen it=true):(∃ o,ItemOk P n tsF ns opers all it o)/\SeenOk opers seen it:=by
 unfold zyu at h
 simp only [Bool.and_eq_true,beq_iff_eq] at h
 obtain ⟨⟨⟨h1,h2⟩,h3⟩,h4⟩:=h
 split at h2
 ·rename_i o ho
  simp only [Bool.and_eq_true] at h2
  obtain ⟨⟨⟨⟨g1,g2⟩,g3⟩,g4⟩,g5⟩:=h2
  refine ⟨⟨o,h1,ho,g1,g2,g3,fun hst=> ?_,fun j hj=> ?_⟩,fun j hj=> ?_,fun q hq=> ?_⟩
  ·rw [hst] at g4;simpa using g4
  ·have hlt:j<opers.size:=by rw [<- h1];exact keep_lt hj
   have:=(List.all_eq_true.1 g5) j (List.mem_range.2 hlt)
   rw [hj] at this
   simp only [Bool.not_true,Bool.false_or,Bool.or_eq_true,List.contains_iff_mem,List.any_eq_true,Bool.and_eq_true,beq_iff_eq] at this
   rcases this with h|⟨l,hl,q,hq,h⟩
   ·exact .inl h
   ·exact .inr ⟨l,hl,q,hq,h⟩
  ·have hlt:j<opers.size:=by rw [<- h1];exact keep_lt hj
   have:=(List.all_eq_true.1 h3) j (List.mem_range.2 hlt)
   rw [hj] at this
   simp only [Bool.not_true,Bool.false_or,List.any_eq_true,beq_iff_eq] at this
   exact this
  ·have:=(List.all_eq_true.1 h4) q hq
   simpa only [bne_iff_ne,ne_eq] using this
 ·cases h2
theorem okItems_mem:∀ {its seen:List Item},zcc P n tsF ns opers all seen its=true->∀ q∈its,(∃ o,ItemOk P n tsF ns opers all q o)/\(∀ s∈seen,s.i≠q.i)
 | [],_,_,q,hq=>by cases hq
 | it::its,seen,h,q,hq=>by
   simp only [zcc,Bool.and_eq_true] at h
   rcases List.mem_cons.1 hq with rfl|hq
   ·obtain ⟨h1,h2⟩:=okItem_some h.1
    exact ⟨h1,h2.ne⟩
   ·obtain ⟨h1,h2⟩:=okItems_mem h.2 q hq
    exact ⟨h1,fun s hs=>h2 s (by simp [hs])⟩
theorem orB_getD:∀ (a b:List Bool) (i:Nat),(orB a b).getD i false=(a.getD i false||b.getD i false)
 | [],b,i=>by simp [orB]
 | x::xs,[],i=>by simp [orB]
 | x::xs,y::ys,0=>by simp [orB]
 | x::xs,y::ys,i+1=>by simpa [orB] using orB_getD xs ys i
def keeps:List Item->List Bool
 | []=>[]
 | q::qs=>orB (keeps qs) q.keep
theorem keeps_not {j:Nat}:∀ {qs:List Item},(∀ S∈qs,S.keep.getD j false=false)->(keeps qs).getD j false=false
 | [],_=>rfl
 | q::qs,h=>by
   rw [keeps,orB_getD,keeps_not fun S hS=>h S (by simp [hS]),h q (by simp)];rfl
structure Pl (P:Program) (R:zan) (n:Nat) (tsF:List (Option Nat)) (ns:Nat) (opers:Array Oper) (all dn dnS its:List Item) (W sf:St):Prop where
 run:zfj R ns (keeps dnS) dn its W=some sf
 len:W.vars.length=ns+opers.size
 mem:∀ q∈all,q∈dn\/q∈dnS\/q∈its
 sub:∀ q,q∈dn\/q∈dnS\/q∈its->q∈all
 okd:∀ q,q∈dn\/q∈dnS->∃ o,ItemOk P n tsF ns opers all q o
 ev:∀ q∈dn,(∀ S∈dnS,S.keep.getD q.i false=false)->zd1 R W ns q=some (W.vars.getD (ns+q.i) .gone)
 fresh:∀ q∈its,W.vars.getD (ns+q.i) .gone=.gone
 kp:∀ q'∈dn,∀ q∈its,q'.keep.getD q.i false=false
 pure:∀ q∈dn,q.st=false
 rest:∃ seen,zcc P n tsF ns opers all seen its=true/\(∀ q,q∈seen↔q∈dn\/q∈dnS)/\∀ q∈dnS,q.st=true
theorem evalP_hidden {R:zan} {W:St} {q:Item} {m i:Nat} {v:V} (hl:W.vars.length=ns+m) (hk:q.keep.length=m) (hi:q.keep.getD i false=false):
 zd1 R { W with vars:=W.vars.set (ns+i) v } ns q=zd1 R W ns q:=by
 unfold zd1
 rw [ziz hl hk hi]
def tell (R:zan) (ns:Nat):List Item->St->St
 | [],W=>W
 | it::its,W=>match zd1 R W ns it with
   | some v=>tell R ns its { W with vars:=W.vars.set (ns+it.i) v }
   | none=>W
theorem Pl.skip {R:zan} {sf:St} {dnS:List Item}:∀ {its dn:List Item} {W:St},Pl P R n tsF ns opers all dn dnS its W sf->
 Pl P R n tsF ns opers all ((zb4 its).reverse++dn) dnS (dropPure its) (tell R ns (zb4 its) W) sf/\(dropPure its=[]\/∃ S rest,dropPure its=S::rest/\S.st=true)/\(∀ q∈dropPure its,q∈its)/\
  ∀ k:List Bool,k.length=opers.size->(∀ q∈its,k.getD q.i false=false)->(tell R ns (zb4 its) W).only ns k=W.only ns k
 | [],dn,W,h=>⟨h,.inl rfl,fun _ h=>h,fun _ _ _=>rfl⟩
 | it::its,dn,W,h=>by
   by_cases hst:it.st=true
   ·have e1:zb4 (it::its)=[]:=by simp [zb4,hst]
    have e2:dropPure (it::its)=it::its:=by simp [dropPure,hst]
    rw [e1,e2]
    exact ⟨h,.inr ⟨it,its,rfl,hst⟩,fun _ h=>h,fun _ _ _=>rfl⟩
   ·obtain ⟨seen,hok,hseen,hS⟩:=h.rest
    simp only [zcc,Bool.and_eq_true] at hok
    obtain ⟨⟨o,hio⟩,hso⟩:=okItem_some hok.1
    have hrun:=h.run
    simp only [zfj] at hrun
    rw [if_neg hst] at hrun
    split at hrun
    ·rename_i v hv
     split at hrun
     ·rename_i hd
      have hself:it.keep.getD it.i false=false:=by
       cases hc:it.keep.getD it.i false with
       | false=>rfl
       | true=>obtain ⟨q,hq,e⟩:=hso.keep _ hc;exact (hso.ne q hq e).elim
      have hilt:it.i<opers.size:=(Array.getElem?_eq_some_iff.1 hio.at').1
      have hget:∀ j,(W.vars.set (ns+it.i) v).getD j .gone=if j=ns+it.i then v else W.vars.getD j .gone:=fun j=>by
       rw [zgg]
       by_cases e:j=ns+it.i
       ·rw [if_pos ⟨e,by rw [h.len];omega⟩,if_pos e]
       ·rw [if_neg (fun h=>e h.1),if_neg e]
      have hsub:∀ q',(q'∈it::dn\/q'∈dnS\/q'∈its)->q'∈all:=by
       intro q' hq'
       refine h.sub q' ?_
       simp only [List.mem_cons] at hq' ⊢
       rcases hq' with (h1|h1)|h1|h1 <;> simp [h1]
      have hPl:Pl P R n tsF ns opers all (it::dn) dnS its { W with vars:=W.vars.set (ns+it.i) v } sf:=by
       refine ⟨hrun,by simpa using h.len,fun q hq=> ?_,hsub,fun q hq=> ?_,fun q hq hno=> ?_,fun q hq=> ?_,fun q' hq' q hq=> ?_,fun q hq=> ?_,it::seen,hok.2,fun q=> ?_,hS⟩
       ·rcases h.mem q hq with h1|h1|h1
        ·exact .inl (by simp [h1])
        ·exact .inr (.inl h1)
        ·rcases List.mem_cons.1 h1 with rfl|h1
         ·exact .inl (by simp)
         ·exact .inr (.inr h1)
       ·rcases hq with hq|hq
        ·rcases List.mem_cons.1 hq with rfl|hq
         ·exact ⟨o,hio⟩
         ·exact h.okd q (.inl hq)
        ·exact h.okd q (.inr hq)
       ·rcases List.mem_cons.1 hq with rfl|hq
        ·rw [evalP_hidden h.len hio.klen hself,hv]
         simp only
         rw [hget,if_pos rfl]
        ·obtain ⟨o',ho'⟩:=h.okd q (.inl hq)
         rw [evalP_hidden h.len ho'.klen (h.kp q hq it (by simp)),h.ev q hq hno]
         simp only
         rw [hget,if_neg]
         intro e
         have:q.i=it.i:=by omega
         exact hso.ne q ((hseen q).2 (.inl hq)) this
       ·simp only
        rw [hget,if_neg]
        ·exact h.fresh q (by simp [hq])
        ·intro e
         have e':q.i=it.i:=by omega
         exact (okItems_mem hok.2 q hq).2 it (by simp) e'.symm
       ·rcases List.mem_cons.1 hq' with rfl|hq'
        ·cases hc:q'.keep.getD q.i false with
         | false=>rfl
         | true=>
           obtain ⟨s,hs,e⟩:=hso.keep _ hc
           exact ((okItems_mem hok.2 q hq).2 s (by simp [hs]) e).elim
        ·exact h.kp q' hq' q (by simp [hq])
       ·rcases List.mem_cons.1 hq with rfl|hq
        ·simpa using hst
        ·exact h.pure q hq
       ·simp only [List.mem_cons,hseen q];exact ⟨fun h=>by rcases h with h|h|h <;> simp [h],fun h=>by rcases h with (h|h)|h <;> simp [h]⟩
      obtain ⟨h1,h2,h3,h4⟩:=hPl.skip
      have e1:zb4 (it::its)=it::zb4 its:=by simp [zb4,hst]
      have e2:dropPure (it::its)=dropPure its:=by simp [dropPure,hst]
      have e3:tell R ns (it::zb4 its) W=tell R ns (zb4 its) { W with vars:=W.vars.set (ns+it.i) v }:=by simp only [tell,hv]
      rw [e1,e2,e3]
      refine ⟨by simpa using h1,h2,fun q hq=>by simp [h3 q hq],fun k hk hkq=> ?_⟩
      rw [h4 k hk fun q hq=>hkq q (by simp [hq]),ziz h.len hk (hkq it (by simp))]
     ·cases hrun
    ·cases hrun
end
end Go.Pm
namespace Go.Pm
variable {P:Program} {B:Base} {x:Cx} {FV FC:Nat->Nat->List Nat} {FX:List Nat} {a:Act} {ts:List (Option Nat)} {n:Nat} {Q:Exit->Act->World->Prop}
variable {R:zan} {sf:St} {tsF:List (Option Nat)} {ns:Nat} {opers:Array Oper} {all:List Item} {md:Region.Mode}
theorem zxh {e:Edge} (h:Region.binds .any e=true):Region.binds md e=true:=by
 unfold Region.binds at *
 split at h <;> first|(cases h;done)|rfl
theorem mem_depsD {o:Oper} {j:Nat}:j∈zru o ↔ ∃ e∈o.after,Region.binds .any e=true/\e.on=j:=by
 simp only [zru,List.mem_map,List.mem_filter,Array.mem_toList_iff]
 constructor
 ·rintro ⟨e,⟨h1,h2⟩,h3⟩;exact ⟨e,h1,h2,h3⟩
 ·rintro ⟨e,h1,h2,h3⟩;exact ⟨e,⟨h1,h2⟩,h3⟩
theorem zmb (l:Array Bool) (j:Nat):l.getD j false=l.toList.getD j false:=by
 simp [Array.getD_eq_getD_getElem?,List.getD,Array.getElem?_toList]
theorem zzd {l:Array Bool} {j:Nat} (h:l.getD j true=false):j<l.size/\l.toList.getD j false=false:=by
 have hlt:j<l.size:=by
  refine Classical.byContradiction fun hn=> ?_
  simp [Array.getElem?_eq_none (Nat.le_of_not_lt hn)] at h
 refine ⟨hlt,?_⟩
 rw [<- zmb]
 simpa [hlt] using h
theorem zty {l:Array Bool} {j:Nat} (hlt:j<l.size) (h:l.toList.getD j false=false):l.getD j true=false:=by
 rw [<- zmb] at h
 simpa [hlt] using h
structure Lst (opers:Array Oper) (all dnS its:List Item) (k:List Bool):Prop where
 size:k.length=opers.size
 closed:∀ q∈all,k.getD q.i false=true->∀ j,q.keep.getD j false=true->k.getD j false=true
 S:∀ q∈dnS,k.getD q.i false=true
 its:∀ q∈its,k.getD q.i false=false
def unl (k:List Bool):Nat:=(k.filter (!·)).length
theorem zzk:∀ {k:List Bool} {i:Nat},i<k.length->k.getD i false=false->unl (k.set i true)+1=unl k
 | [],i,h,_=>by simp at h
 | b::k,0,_,h=>by
   simp only [List.getD_cons_zero] at h
   subst h;simp [unl]
 | b::k,i+1,h,h2=>by
   have:=zzk (k:=k) (i:=i) (by simpa using h) (by simpa using h2)
   cases b <;> simp [unl] at this ⊢ <;> omega
theorem ydh {k:List Bool} (h:unl k=0) {j:Nat} (hj:j<k.length):k.getD j false=true:=by
 unfold unl at h
 have h1:k.filter (!·)=[]:=List.eq_nil_of_length_eq_zero h
 rw [List.filter_eq_nil_iff] at h1
 have:=h1 _ (List.getElem_mem hj)
 rw [za3 hj];simpa using this
theorem Pl.item {dn dnS its:List Item} {W:St} (h:Pl P R n tsF ns opers all dn dnS its W sf) {q:Item} (hq:q∈all):∃ o,ItemOk P n tsF ns opers all q o:=by
 rcases h.mem q hq with h1|h1|h1
 ·exact h.okd q (.inl h1)
 ·exact h.okd q (.inr h1)
 ·obtain ⟨seen,hok,_⟩:=h.rest
  exact (okItems_mem hok q h1).1
theorem zw1 {listed:Array Bool} {dn dnS its:List Item} {W:St} (hPl:Pl P R n tsF ns opers all dn dnS its W sf) (hL:Lst opers all dnS its listed.toList) {q:Item} (hq:q∈all) (hr:q.i∈Region.ready md opers listed):
 ∀ j,q.keep.getD j false=true->listed.toList.getD j false=true:=by
 intro j hj
 obtain ⟨o,ho⟩:=hPl.item hq
 obtain ⟨_,o',ho',hdeps⟩:=mem_ready.1 hr
 rw [ho.at'] at ho'
 cases ho'
 have hdep:∀ l∈zru o,listed.toList.getD l false=true:=by
  intro l hl
  obtain ⟨e,h1,h2,rfl⟩:=mem_depsD.1 hl
  rw [<- zmb];exact hdeps e h1 (zxh h2)
 rcases ho.deps j hj with h1|⟨l,h1,q',h2,rfl,h3⟩
 ·exact hdep j h1
 ·exact hL.closed q' h2 (hdep _ h1) j h3
theorem Lst.next {k:List Bool} {dnS its:List Item} (hL:Lst opers all dnS its k) {i:Nat} (hi:∀ q∈all,q.i=i->∀ j,q.keep.getD j false=true->k.getD j false=true) {dnS' its':List Item}
 (hS:∀ q∈dnS',q∈dnS\/(q.i=i/\i<opers.size)) (hits:∀ q∈its',q∈its/\q.i≠i):Lst opers all dnS' its' (k.set i true):=by
 refine ⟨by simpa using hL.size,fun q hq hk j hj=> ?_,fun q hq=> ?_,fun q hq=> ?_⟩
 ·rw [zd4]
  split
  ·rfl
  ·rw [zd4] at hk
   split at hk
   ·rename_i h;exact hi q hq h.1 j hj
   ·exact hL.closed q hq hk j hj
 ·rw [zd4]
  split
  ·rfl
  ·rename_i hn
   rcases hS q hq with h1|⟨h1,h2⟩
   ·exact hL.S q h1
   ·exact (hn ⟨h1,by rw [hL.size,h1];exact h2⟩).elim
 ·rw [zd4,if_neg (fun h=>(hits q hq).2 h.1)]
  exact hL.its q (hits q hq).1
theorem Ext.shrink {X:Nat->Prop} {s s':St} (e:Ext X s s') {p:Nat} (hp:X p) (hg:s'.vars.getD p .gone=.gone):Ext (fun i=>X i/\i≠p) s s':=by
 refine ⟨e.len,e.boxes,fun i hi=> ?_,fun i hi=>e.gone i hi.1⟩
 by_cases hx:X i
 ·have:i=p:=Classical.byContradiction fun hn=>hi ⟨hx,hn⟩
  subst this
  rw [hg,e.gone _ hp]
 ·exact e.eq i hx
theorem zus {keep:List Bool} {s s2:St}:∀ {dn:List Item},ycz R ns keep s s2 dn->∀ q∈dn,keep.getD q.i false=false->zd1 R s2 ns q=some (s2.vars.getD (ns+q.i) .gone)
 | [],_,q,hq,_=>by cases hq
 | d::dn,h,q,hq,hk=>by
   rcases List.mem_cons.1 hq with rfl|hq
   ·exact (h.1 hk).2
   ·exact zus h.2 q hq hk
theorem ydd (hR:zwx P R B) (hQ:∀ x' FV' FC' a',x'.st=sf->SR B x' FV' FC' []->Tied B tsF n x' a'->Q .normal a' x'.w) (rk:Nat->Nat)
 (hrank:∀ i o,opers[i]? =some o->∀ e∈o.after,Region.binds md e=true->e.on<opers.size/\rk e.on<rk i) (hcov:∀ j,j<opers.size->∃ q∈all,q.i=j) (huq:∀ q∈all,∀ q'∈all,q.i=q'.i->q=q') (htsF:tsF.length=ns+opers.size):
 ∀ (fuel:Nat) (listed:Array Bool) (a:Act) (x:Cx) (FV FC:Nat->Nat->List Nat) (dn dnS its:List Item) (W:St) (TS:List (List Item)) (kf:Nat),its∈TS->(∀ T∈TS,Pl P R n tsF ns opers all dn dnS T W sf)->yj8 kf TS=true->
   (∀ T∈TS,Lst opers all dnS T listed.toList)->unl listed.toList<=fuel->x.st=W.only ns listed.toList->SR B x FV FC []->Tied B tsF n x a->wpAny P md opers Q fuel listed a x.w:=by
 have done:∀ (listed:Array Bool) (a:Act) (x:Cx) (FV FC:Nat->Nat->List Nat) (dn dnS its:List Item) (W:St),Pl P R n tsF ns opers all dn dnS its W sf->
  Lst opers all dnS its listed.toList->x.st=W.only ns listed.toList->SR B x FV FC []->Tied B tsF n x a->(∀ j,j<opers.size->listed.toList.getD j false=true)->Q .normal a x.w:=by
  intro listed a x FV FC dn dnS its W hPl hL hst h ht hall
  have hits:its=[]:=by
   cases its with
   | nil=>rfl
   | cons S rest=>
     obtain ⟨o,ho⟩:=hPl.item (hPl.sub S (.inr (.inr (by simp))))
     have h1:=hall S.i (Array.getElem?_eq_some_iff.1 ho.at').1
     rw [hL.its S (by simp)] at h1;cases h1
  subst hits
  have hrun:=hPl.run
  simp only [zfj,Option.some.injEq] at hrun
  subst hrun
  rw [zqj hPl.len hL.size hall] at hst
  exact hQ x FV FC a hst h ht
 have noneready:∀ (listed:Array Bool),listed.size=opers.size->Region.ready md opers listed=[]->∀ j,j<opers.size->listed.toList.getD j false=true:=by
  intro listed hsz hr
  have key:∀ r j,rk j<=r->j<opers.size->listed.toList.getD j false=true:=by
   intro r
   induction r with
   | zero=>
     intro j hj hlt
     cases hc:listed.toList.getD j false with
     | true=>rfl
     | false=>
       have:j∈Region.ready md opers listed:=mem_ready.2 ⟨zty (by omega) hc,opers[j],Array.getElem?_eq_getElem hlt,fun e he hb=>by
        have:=(hrank j _ (Array.getElem?_eq_getElem hlt) e he hb).2;omega⟩
       rw [hr] at this;cases this
   | succ r ih=>
     intro j hj hlt
     cases hc:listed.toList.getD j false with
     | true=>rfl
     | false=>
       have:j∈Region.ready md opers listed:=mem_ready.2 ⟨zty (by omega) hc,opers[j],Array.getElem?_eq_getElem hlt,fun e he hb=>by
        obtain ⟨h1,h2⟩:=hrank j _ (Array.getElem?_eq_getElem hlt) e he hb
        rw [zmb];exact ih e.on (by omega) h1⟩
       rw [hr] at this;cases this
  exact fun j hj=>key (rk j) j (Nat.le_refl _) hj
 intro fuel
 induction fuel with
 | zero=>
   intro listed a x FV FC dn dnS its W TS kf hTS hPlA hcvA hLA hun hst h ht
   have hPl:=hPlA its hTS
   have hL:=hLA its hTS
   have hall:∀ j,j<opers.size->listed.toList.getD j false=true:=fun j hj=>ydh (by omega) (by rw [hL.size];exact hj)
   refine ⟨?_,done listed a x FV FC dn dnS its W hPl hL hst h ht hall⟩
   cases hr:Region.ready md opers listed with
   | nil=>rfl
   | cons j rest=>
     have hj:j∈Region.ready md opers listed:=by rw [hr];simp
     have h1:=(mem_ready.1 hj).1
     obtain ⟨h2,h3⟩:=zzd h1
     have hsz:listed.size=opers.size:=by simpa using hL.size
     rw [hall j (by omega)] at h3;cases h3
 | succ fuel ih=>
   intro listed a x FV FC dn dnS its W TS kf hTS hPlA hcvA hLA hun hst h ht
   have hPl:=hPlA its hTS
   have hL:=hLA its hTS
   have hsz:listed.size=opers.size:=by simpa using hL.size
   refine ⟨fun hr=>done listed a x FV FC dn dnS its W hPl hL hst h ht (noneready listed hsz hr),fun i hi=> ?_⟩
   obtain ⟨hu,_,_,_⟩:=mem_ready.1 hi
   obtain ⟨hilt,hiu⟩:=zzd hu
   have hi0:i<opers.size:=by omega
   obtain ⟨q,hq,rfl⟩:=hcov i hi0
   obtain ⟨o,ho⟩:=hPl.item hq
   have hkr:∀ q'∈all,q'.i=q.i->∀ j,q'.keep.getD j false=true->listed.toList.getD j false=true:=fun q' hq' e=>zw1 hPl hL hq' (by rw [e];exact hi)
   have hset:(listed.setIfInBounds q.i true).toList=listed.toList.set q.i true:=by simp
   have hun':unl (listed.setIfInBounds q.i true).toList<=fuel:=by
    rw [hset];have:=zzk (k:=listed.toList) (i:=q.i) (by simpa using hilt) hiu;omega
   have hxlen:x.st.vars.length=ns+opers.size:=by rw [hst];exact zc9 hPl.len hL.size
   have hgone:x.st.vars.getD (ns+q.i) .gone=.gone:=by
    rw [hst,zbz hPl.len hL.size,if_neg]
    rintro (h1|h1)
    ·omega
    ·rw [show ns+q.i - ns=q.i by omega,hiu] at h1;cases h1
   simp only [wpOp,ho.at']
   rcases hPl.mem q hq with hdn|hdS|hits
   ·
    have hev:=hPl.ev q hdn fun S hS=>by
     cases hc:S.keep.getD q.i false with
     | false=>rfl
     | true=>
       have:=hL.closed S (hPl.sub S (.inr (.inl hS))) (hL.S S hS) q.i hc
       rw [hiu] at this;cases this
    have hext:Ext (fun i=>ns<=i/\q.keep.getD (i - ns) false=false) (W.only ns q.keep) x.st:=by
     rw [hst]
     exact zmi hPl.len ho.klen hL.size (hkr q hq rfl)
    have hd:=ho.pure (hPl.pure q hdn)
    have next:∀ (x':Cx) (FV' FC':Nat->Nat->List Nat) (a':Act),x'.st={ x.st with vars:=x.st.vars.set (ns+q.i) (W.vars.getD (ns+q.i) .gone) }->SR B x' FV' FC' []->Tied B tsF n x' a'->
     wpAny P md opers Q fuel (listed.setIfInBounds q.i true) a' x'.w:=by
     intro x' FV' FC' a' hst' h' ht'
     refine ih _ a' x' FV' FC' dn dnS its W TS kf hTS hPlA hcvA ?_ hun' ?_ h' ht'
     ·intro T hT
      rw [hset]
      refine (hLA T hT).next hkr (fun q hq=>.inl hq) fun q' hq'=>⟨hq',fun e=> ?_⟩
      obtain ⟨seen,hok,hseen,_⟩:=(hPlA T hT).rest
      exact (okItems_mem hok q' hq').2 q ((hseen q).2 (.inl hdn)) e.symm
     ·rw [hst',hst,hset]
      exact ycw hPl.len hL.size hi0
    have hdst:=ho.dst
    rw [hd] at hdst
    rcases zwq rfl hev hext with ⟨hw,hp⟩|⟨hw,hv⟩
    ·rw [if_pos (zds h ht ho.guard hw)]
     left
     obtain ⟨_,_,hstep,_⟩:=zkg hp
     refine Oper.wp_weaken (ztf hR h ht ho.op hstep) ?_
     rintro a1 w1 ⟨val,rfl,x1,FV1,FC1,FX1,G,rfl,h2,h3,h4,h5,h6⟩
     obtain ⟨x2,FV2,FC2,e1,e2,e3,e4⟩:=zmr h3 h4 h5 h6 hdst (by rw [htsF];omega) (by rw [htsF];omega) (by rw [h2];exact hgone) (s2:={ x.st with vars:=x.st.vars.set (ns+q.i) (W.vars.getD (ns+q.i) .gone) }) (by rw [h2];rfl)
     rw [<- e1]
     exact next x2 FV2 FC2 _ e2 e3 e4
    ·rw [if_neg (by rw [zds h ht ho.guard hw];simp)]
     have hp:Pend x undef (.tup []) fun _=>[]:=⟨⟨#[],rfl,rfl,fun j hj=>by cases hj⟩,fun c hc=>by simp [V.cells] at hc⟩
     obtain ⟨x2,FV2,FC2,e1,e2,e3,e4⟩:=zmr h ht hp (fun b=>by rw [zb6]) hdst (by rw [htsF];omega) (by rw [htsF];omega) hgone (s2:={ x.st with vars:=x.st.vars.set (ns+q.i) (W.vars.getD (ns+q.i) .gone) }) (by rw [hv];rfl)
     rw [<- e1]
     exact next x2 FV2 FC2 _ e2 e3 e4
   ·rw [hL.S q hdS] at hiu;cases hiu
   ·
    obtain ⟨k0,cov⟩:∃ k0,(TS.all fun T=>match T with
     | []=>false
     | S::rest=>S.st&&rest.all (fun q=>TS.any fun T'=>match T' with|h::_=>h.i == q.i||q.keep.getD h.i false | []=>false) &&
       ((TS.filter fun T'=>match T' with|h::_=>h.i == S.i | []=>false).all fun T'=>(zb4 T'.tail).map (·.i) == (zb4 rest).map (·.i)) &&
       yj8 k0 ((TS.filter fun T'=>match T' with|h::_=>h.i == S.i | []=>false).map fun T'=>dropPure T'.tail))=true:=by
     have hne:TS.all (·.isEmpty)=false:=by
      cases hc:TS.all (·.isEmpty) with
      | false=>rfl
      | true=>
        have:=(List.all_eq_true.1 hc) its hTS
        cases its with
        | nil=>cases hits
        | cons _ _=>cases this
     cases kf with
     | zero=>simp only [yj8] at hcvA;rw [hne] at hcvA;cases hcvA
     | succ k0=>simp only [yj8,hne,Bool.false_or] at hcvA;exact ⟨k0,hcvA⟩
    obtain ⟨rest,hT⟩:∃ rest,(q::rest)∈TS:=by
     cases its with
     | nil=>cases hits
     | cons S rest=>
       rcases List.mem_cons.1 hits with h1|h1
       ·subst h1;exact ⟨rest,hTS⟩
       ·have c1:=(List.all_eq_true.1 cov) _ hTS
        simp only [Bool.and_eq_true] at c1
        have c2:=(List.all_eq_true.1 c1.1.1.2) q h1
        obtain ⟨T',hT',c3⟩:=List.any_eq_true.1 c2
        cases T' with
        | nil=>cases c3
        | cons h0 r0=>
          simp only [Bool.or_eq_true,beq_iff_eq] at c3
          rcases c3 with c3|c3
          ·have:h0=q:=huq h0 ((hPlA _ hT').sub h0 (.inr (.inr (by simp)))) q hq c3
           subst this;exact ⟨r0,hT'⟩
          ·have:=hkr q hq rfl h0.i c3
           rw [(hLA _ hT').its h0 (by simp)] at this;cases this
    have cT:=(List.all_eq_true.1 cov) _ hT
    simp only [Bool.and_eq_true] at cT
    obtain ⟨⟨⟨hSst,_⟩,cP⟩,cN⟩:=cT
    have hPl:=hPlA _ hT
    have hL:=hLA _ hT
    obtain ⟨seen,hok,hseen,hSS⟩:=hPl.rest
    have hok2:=hok
    simp only [zcc,Bool.and_eq_true] at hok2
    obtain ⟨_,hso⟩:=okItem_some hok2.1
    have hrun:=hPl.run
    simp only [zfj] at hrun
    rw [if_pos hSst] at hrun
    split at hrun
    ·rename_i v s1 u s1' hm hf
     split at hm
     ·rename_i hgn
      split at hrun
      ·rename_i d1 s2 hd1 hd2
       split at hrun
       ·rename_i hchk
        have hself:q.keep.getD q.i false=false:=by
         cases hc:q.keep.getD q.i false with
         | false=>rfl
         | true=>obtain ⟨s,hs,e⟩:=hso.keep _ hc;exact (hso.ne s hs e).elim
        have hncopy:∀ e y z,q.h ≠ .copy e y z:=fun e y z hc=>by have:=ho.op;rw [hc] at this;simp [zdd] at this
        obtain ⟨⟨K1,k1,f1⟩,_⟩:=zu8 hncopy hm
        have hextx:Ext (fun i=>ns<=i/\q.keep.getD (i - ns) false=false) (W.only ns q.keep) x.st:=by
         rw [hst];exact zmi hPl.len ho.klen hL.size (hkr q hq rfl)
        have hfull:W.only ns (List.replicate opers.size true)=W:=zqj hPl.len (by simp) fun j hj=>by simp [List.getD,hj]
        have hextW:Ext (fun i=>ns<=i/\q.keep.getD (i - ns) false=false) (W.only ns q.keep) W:=by
         have:=zmi (W:=W) (ns:=ns) (m:=opers.size) (k1:=q.keep) (k2:=List.replicate opers.size true) hPl.len ho.klen (by simp) fun j hj=>by
          have:j<opers.size:=by rw [<- ho.klen];exact keep_lt hj
          simp [List.getD,this]
         rwa [hfull] at this
        have hp0:ns<=ns+q.i/\q.keep.getD (ns+q.i - ns) false=false:=⟨by omega,by rw [show ns+q.i - ns=q.i by omega];exact hself⟩
        have hWg:W.vars.getD (ns+q.i) .gone=.gone:=hPl.fresh q (by simp)
        obtain ⟨sx,gx1,gx2,gx3⟩:=f1 _ _ hextx
        obtain ⟨sW,gW1,gW2,gW3⟩:=f1 _ _ hextW
        simp only at gx1 gW1
        rw [hf] at gW1
        cases gW1
        have hsxg:sx.vars.getD (ns+q.i) .gone=.gone:=by rw [gx3 _ hp0,hgone,zbi k1]
        have hsWg:s1'.vars.getD (ns+q.i) .gone=.gone:=by rw [gW3 _ hp0,hWg,zbi k1]
        have hdk:∀ k,q.d=some k->k<ns:=by
         intro k hk
         have:=ho.dst
         rw [hk] at this
         cases hod:o.dst with
         | none=>rw [hod] at this;cases this
         | some t=>
           rw [hod] at this
           simp only [zi5,Bool.and_eq_true,decide_eq_true_eq] at this
           exact this.1.1.1.2
        obtain ⟨K2,k2,f2⟩:=ydo (X:=fun i=>(ns<=i/\q.keep.getD (i - ns) false=false)/\i≠ns+q.i) (fun h=>h.2 rfl) (fun k hk h=>by have:=hdk k hk;omega) hd1
        obtain ⟨s2x,hx1,hx2,hx3⟩:=f2 _ _ (fun _ h=>h) (gx2.shrink hp0 hsxg)
        obtain ⟨s2W,hW1,hW2,hW3⟩:=f2 _ _ (fun _ h=>h) (gW2.shrink hp0 hsWg)
        have hx1':sx.destD ns (ns+q.i) q.d v=some s2x:=by
         simp only [Option.map_eq_some_iff,Prod.mk.injEq] at hx1
         obtain ⟨z,h1,_,rfl⟩:=hx1;exact h1
        have hW1':s1'.destD ns (ns+q.i) q.d v=some s2W:=by
         simp only [Option.map_eq_some_iff,Prod.mk.injEq] at hW1
         obtain ⟨z,h1,_,rfl⟩:=hW1;exact h1
        rw [hd2] at hW1'
        cases hW1'
        have hgnone:q.g=none:=by simpa using hgn
        rw [if_pos (zds h ht ho.guard (by rw [hgnone];rfl))]
        left
        refine Oper.wp_weaken (ztf hR h ht ho.op (zu8 hncopy gx1).2) ?_
        rintro a1 w1 ⟨val,rfl,x1,FV1,FC1,FX1,G,rfl,h2,h3,h4,h5,h6⟩
        obtain ⟨x2,FV2,FC2,e1,e2,e3,e4⟩:=zmr h3 h4 h5 h6 ho.dst (by rw [htsF];omega) (by rw [htsF];omega) (by rw [h2];exact hsxg) (s2:=s2x) (by rw [h2];exact hx1')
        have hlx:s2x.vars.length=ns+opers.size:=by have:=e4.len;rw [e2,htsF] at this;exact this.symm
        have hl2:s2.vars.length=ns+opers.size:=by rw [hW2.len,<- hx2.len,hlx]
        have hk':(listed.toList.set q.i true).length=opers.size:=by simpa using hL.size
        have hsame:s2x=s2.only ns (listed.toList.set q.i true):=by
         refine St.ext' (by show s2x.boxes=s2.boxes;rw [hx2.boxes,hW2.boxes]) (by rw [zc9 hl2 hk',hlx]) fun i=> ?_
         rw [zbz hl2 hk',zd4]
         by_cases hX:(ns<=i/\q.keep.getD (i - ns) false=false)/\i≠ns+q.i
         ·have hne:¬ i - ns=q.i:=fun e=>hX.2 (by omega)
          have e0:(if i - ns=q.i/\i - ns<listed.toList.length then true else listed.toList.getD (i - ns) false)=listed.toList.getD (i - ns) false:=if_neg (fun h=>hne h.1)
          simp only [e0]
          have ex1:=hx3 i hX
          have eW1:=hW3 i hX
          rw [gx3 i hX.1] at ex1
          rw [gW3 i hX.1] at eW1
          have hxi:x.st.vars.getD i .gone=if i<ns\/listed.toList.getD (i - ns) false=true then W.vars.getD i .gone else .gone:=by rw [hst];exact zbz hPl.len hL.size i
          by_cases hk:i<ns\/listed.toList.getD (i - ns) false=true
          ·rw [if_pos hk] at hxi ⊢
           rw [ex1,eW1,hxi]
          ·rw [if_neg hk] at hxi ⊢
           rw [ex1,hxi,zbi k1,zbi k2]
         ·rw [hx2.eq i hX,<- hW2.eq i hX,if_pos]
          by_cases h1:i<ns
          ·exact .inl h1
          ·right
           by_cases h2:i=ns+q.i
           ·rw [if_pos];exact ⟨by omega,by rw [hL.size];omega⟩
           ·have h3:q.keep.getD (i - ns) false=true:=by
             cases hc:q.keep.getD (i - ns) false with
             | true=>rfl
             | false=>exact (hX ⟨⟨by omega,hc⟩,h2⟩).elim
            rw [if_neg (fun h=>h2 (by omega))]
            exact hkr q hq rfl _ h3
        have hPl2:∀ r',(q::r')∈TS->Pl P R n tsF ns opers all dn (q::dnS) r' s2 sf:=by
         intro r' hr'
         have hPl:=hPlA _ hr'
         obtain ⟨seen,hok,hseen,hSS⟩:=hPl.rest
         have hok2:=hok
         simp only [zcc,Bool.and_eq_true] at hok2
         obtain ⟨_,hso⟩:=okItem_some hok2.1
         have hrun:zfj R ns (keeps (q::dnS)) dn r' s2=some sf:=by
          have:=hPl.run
          simp only [zfj] at this
          rw [if_pos hSst,if_pos hgn,hm,hf] at this
          simp only [hd1,hd2] at this
          rw [if_pos hchk] at this
          exact this
         refine ⟨hrun,hl2,fun q' hq'=> ?_,fun q' hq'=>hPl.sub q' ?_,fun q' hq'=> ?_,fun q' hq' hno=> ?_,fun q' hq'=> ?_,fun q' hq' q2 hq2=>hPl.kp q' hq' q2 (by simp [hq2]),hPl.pure,q::seen,hok2.2,fun q'=> ?_,fun q' hq'=> ?_⟩
         ·rcases hPl.mem q' hq' with h1|h1|h1
          ·exact .inl h1
          ·exact .inr (.inl (by simp [h1]))
          ·rcases List.mem_cons.1 h1 with rfl|h1
           ·exact .inr (.inl (by simp))
           ·exact .inr (.inr h1)
         ·simp only [List.mem_cons] at hq' ⊢
          rcases hq' with h1|(h1|h1)|h1 <;> simp [h1]
         ·rcases hq' with h1|h1
          ·exact hPl.okd q' (.inl h1)
          ·rcases List.mem_cons.1 h1 with rfl|h1
           ·exact ⟨o,ho⟩
           ·exact hPl.okd q' (.inr h1)
         ·exact zus hchk q' hq' (keeps_not (qs:=q::dnS) hno)
         ·have hdis:=(okItems_mem hok2.2 q' hq').2
          have hkf:q.keep.getD q'.i false=false:=by
           cases hc:q.keep.getD q'.i false with
           | false=>rfl
           | true=>obtain ⟨s,hs,e⟩:=hso.keep _ hc;exact (hdis s (by simp [hs]) e).elim
          have hX:(ns<=ns+q'.i/\q.keep.getD (ns+q'.i - ns) false=false)/\ns+q'.i≠ns+q.i:=
           ⟨⟨by omega,by rw [show ns+q'.i - ns=q'.i by omega];exact hkf⟩,fun e=>hdis q (by simp) (by omega)⟩
          rw [hW3 _ hX,gW3 _ hX.1,hPl.fresh q' (by simp [hq']),zbi k1,zbi k2]
         ·simp only [List.mem_cons,hseen q']
          exact ⟨fun h=>by rcases h with h|h|h <;> simp [h],fun h=>by rcases h with h|h|h <;> simp [h]⟩
         ·rcases List.mem_cons.1 hq' with rfl|h1
          ·exact hSst
          ·exact hSS q' h1
        have hskip:=fun r' hr'=>(hPl2 r' hr').skip
        have heads:∀ T',T'∈TS.filter (fun T'=>match T' with|h::_=>h.i == q.i | []=>false)->∃ r',T'=q::r'/\(q::r')∈TS:=by
         intro T' hT'
         obtain ⟨g1,g2⟩:=List.mem_filter.1 hT'
         cases T' with
         | nil=>cases g2
         | cons h0 r0=>
           have e0:h0=q:=huq h0 ((hPlA _ g1).sub h0 (.inr (.inr (by simp)))) q hq (by simpa using g2)
           subst e0;exact ⟨r0,rfl,g1⟩
        have hin:(q::rest)∈TS.filter (fun T'=>match T' with|h::_=>h.i == q.i | []=>false):=List.mem_filter.2 ⟨hT,by simp⟩
        have hpure:∀ r',(q::r')∈TS->zb4 r'=zb4 rest:=by
         intro r' hr'
         have c1:=(List.all_eq_true.1 cP) _ (List.mem_filter.2 ⟨hr',by simp⟩)
         have c2:(zb4 r').map (·.i)=(zb4 rest).map (·.i):=by simpa using c1
         have sub:∀ (r:List Item),(∀ z∈r,z∈all)->∀ z∈zb4 r,z∈all:=by
          intro r
          induction r with
          | nil=>intro _ z hz;cases hz
          | cons w r ihr=>
            intro hw z hz
            unfold zb4 at hz
            split at hz
            ·cases hz
            ·rcases List.mem_cons.1 hz with rfl|hz
             ·exact hw _ (by simp)
             ·exact ihr (fun z hz=>hw z (by simp [hz])) z hz
         have eqL:∀ (A C:List Item),(∀ z∈A,z∈all)->(∀ z∈C,z∈all)->A.map (·.i)=C.map (·.i)->A=C:=by
          intro A
          induction A with
          | nil=>intro C _ _ e;cases C with
            | nil=>rfl
            | cons _ _=>cases e
          | cons z A ihA=>
            intro C h1 h2 e
            cases C with
            | nil=>cases e
            | cons w C=>
              simp only [List.map_cons,List.cons.injEq] at e
              rw [huq z (h1 z (by simp)) w (h2 w (by simp)) e.1,ihA C (fun z hz=>h1 z (by simp [hz])) (fun z hz=>h2 z (by simp [hz])) e.2]
         exact eqL _ _ (sub r' fun z hz=>(hPlA _ hr').sub z (.inr (.inr (by simp [hz])))) (sub rest fun z hz=>(hPlA _ hT).sub z (.inr (.inr (by simp [hz])))) c2
        have hrestf:∀ r',(q::r')∈TS->∀ q'∈r',(listed.toList.set q.i true).getD q'.i false=false:=by
         intro r' hr' q' hq'
         obtain ⟨sn,hk,_,_⟩:=(hPlA _ hr').rest
         simp only [zcc,Bool.and_eq_true] at hk
         rw [zd4,if_neg (fun h=>(okItems_mem hk.2 q' hq').2 q (by simp) h.1.symm)]
         exact (hLA _ hr').its q' (by simp [hq'])
        rw [<- e1]
        refine ih _ _ x2 FV2 FC2 ((zb4 rest).reverse++dn) (q::dnS) (dropPure rest) (tell R ns (zb4 rest) s2) ((TS.filter fun T'=>match T' with|h::_=>h.i == q.i | []=>false).map fun T'=>dropPure T'.tail) k0 (List.mem_map.2 ⟨_,hin,rfl⟩) ?_ cN ?_ hun' ?_ e3 e4
        ·intro T hTm
         obtain ⟨T',g1,rfl⟩:=List.mem_map.1 hTm
         obtain ⟨r',rfl,g2⟩:=heads T' g1
         have:=(hskip r' g2).1
         rw [hpure r' g2] at this
         exact this
        ·intro T hTm
         obtain ⟨T',g1,rfl⟩:=List.mem_map.1 hTm
         obtain ⟨r',rfl,g2⟩:=heads T' g1
         rw [hset]
         refine (hLA _ g2).next hkr (fun q' hq'=> ?_) fun q' hq'=> ?_
         ·rcases List.mem_cons.1 hq' with rfl|h1
          ·exact .inr ⟨rfl,hi0⟩
          ·exact .inl h1
         ·have h1:=(hskip r' g2).2.2.1 q' hq'
          obtain ⟨sn,hk,_,_⟩:=(hPlA _ g2).rest
          simp only [zcc,Bool.and_eq_true] at hk
          exact ⟨by simp [h1],fun e=>(okItems_mem hk.2 q' h1).2 q (by simp) e.symm⟩
        ·rw [e2,hsame,hset,(hskip rest hT).2.2.2 _ hk' (hrestf rest hT)]
       ·cases hrun
      ·cases hrun
     ·cases hm
    ·cases hrun
end Go.Pm
