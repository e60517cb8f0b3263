/- Proved: the law FnBusied answers true at all arguments, for every operating system that has started; no conditions beyond the row's own. -/
import Derived.Test.YtgbigcobmiapcaaMj
import Derived.Carry
import Derived.DataReads
import Derived.ChangeSame
set_option linter.unusedVariables false
set_option linter.unusedSimpArgs false
namespace Go.Pm
open Go.RowKit Go.WideShapes Go.ChangeShapes
inductive PT where
 | int (k:IntKind)
 | bool
 | str
 | list (ag:Bool) (es:List PT)
mutual
def PT.has:PT->V->Prop
 | .int k,v=>∃ n,v=.int k n/\k.min<=n/\n<=k.max
 | .bool,v=>∃ b,v=.bool b
 | .str,v=>∃ s,v=.str s/\s.size<=9223372036854775807
 | .list ag es,v=>∃ xs,v=.imm es.length xs/\xs.length<=9223372036854775807/\∀ x∈xs,x.leaf= !ag/\PT.hasAll es x.cells1
def PT.hasAll:List PT->List V->Prop
 | [],vs=>vs=[]
 | p::ps,vs=>∃ v vs',vs=v::vs'/\p.has v/\PT.hasAll ps vs'
end
theorem hasAll_len:∀ {ps:List PT} {vs:List V},PT.hasAll ps vs->vs.length=ps.length
 | [],vs,h=>by simp only [PT.hasAll] at h;subst h;rfl
 | p::ps,vs,h=>by
   simp only [PT.hasAll] at h
   obtain ⟨v,vs',rfl,_,h2⟩:=h
   simp [hasAll_len h2]
theorem hasAll_append:∀ {ps qs:List PT} {vs us:List V},PT.hasAll ps vs->PT.hasAll qs us->PT.hasAll (ps++qs) (vs++us)
 | [],qs,vs,us,h,h'=>by simp only [PT.hasAll] at h;subst h;exact h'
 | p::ps,qs,vs,us,h,h'=>by
   simp only [PT.hasAll] at h
   obtain ⟨v,vs',rfl,h1,h2⟩:=h
   simp only [List.cons_append,PT.hasAll]
   exact ⟨v,vs'++us,rfl,h1,hasAll_append h2 h'⟩
theorem has_leaf {p:PT} {v:V} (h:p.has v):v.leaf=true:=by
 cases p <;> simp only [PT.has] at h
 ·obtain ⟨_,rfl,_⟩:=h;rfl
 ·obtain ⟨_,rfl⟩:=h;rfl
 ·obtain ⟨_,rfl,_⟩:=h;rfl
 ·obtain ⟨_,rfl,_⟩:=h;rfl
theorem hasAll_leaf:∀ {ps:List PT} {vs:List V},PT.hasAll ps vs->∀ v∈vs,v.leaf=true
 | [],vs,h=>by simp only [PT.hasAll] at h;subst h;simp
 | p::ps,vs,h=>by
   simp only [PT.hasAll] at h
   obtain ⟨v,vs',rfl,h1,h2⟩:=h
   intro u hu
   rcases List.mem_cons.1 hu with rfl|hu
   ·exact has_leaf h1
   ·exact hasAll_leaf h2 u hu
theorem cells_of_cells1 (z:V) (h:∀ v∈z.cells1,v.leaf=true):z.cells=z.cells1:=by
 cases z with
 | tup vs=>have:=h _ (List.mem_singleton.2 rfl);cases this
 | _=>rfl
def isAggT (P:Program) (t:TypeId):Bool:=
 match P.underlying t with
 | some (.struct _)=>true
 | _=>false
def ptFields (g:TypeId->Option (List PT)) (sz:TypeId->Nat):List Field->Nat->Option (List PT)
 | [],_=>some []
 | f::fs,off=>
   match g f.type with
   | some ps=>if f.offset=off/\ps.length=sz f.type then(ptFields g sz fs (off+ps.length)).map (ps ++ ·) else none
   | none=>none
def ptOf (P:Program):Nat->TypeId->Option (List PT)
 | 0,_=>none
 | n+1,t=>
   match P.underlying t with
   | some (.int k)=>some [.int k]
   | some .bool=>some [.bool]
   | some .string=>some [.str]
   | some (.slice e)=>
     match ptOf P n e with
     | some es=>if es.length=P.cellsOf e/\0<es.length/\(isAggT P e=true\/es.length=1) then some [.list (isAggT P e) es] else none
     | none=>none
   | some (.struct fs)=>
     match ptFields (ptOf P n) P.cellsOf fs.toList 0 with
     | some ps=>if ps.length=P.cellsOf t then some ps else none
     | none=>none
   | _=>none
variable {H:Type} {enc:TypeId×Value->H} {P:Program} {W:World}
theorem mapM_some {α β:Type} {f:α->Option β}:∀ {l:List α} {ys:List β},l.mapM f=some ys->ys.length=l.length/\∀ i,∀ (h:i<l.length),∃ y,f l[i]=some y
 | [],ys,h=>by
   simp at h;subst h
   exact ⟨rfl,fun i hi=>by simp at hi⟩
 | a::l,ys,h=>by
   rw [List.mapM_cons] at h
   simp only [Option.bind_eq_bind,Option.bind_eq_some_iff,Option.pure_def,Option.some.injEq] at h
   obtain ⟨y,h1,ys',h2,rfl⟩:=h
   obtain ⟨h3,h4⟩:=mapM_some h2
   refine ⟨by simp [h3],fun i hi=> ?_⟩
   cases i with
   | zero=>exact ⟨y,h1⟩
   | succ i=>simpa using h4 i (by simpa using hi)
def Reads (W:World) (cs:List Value) (ys:List V):Prop:=ys.length=cs.length/\∀ i,i<ys.length->VR W (fun b=>b<W.heap.size) (cs.getD i undef) (ys.getD i .gone) []
theorem Reads.one {v:Value} {y:V} (h:VR W (fun b=>b<W.heap.size) v y []):Reads W [v] [y]:=⟨rfl,fun i hi=>by
 have:i=0:=by simpa using hi
 subst this;exact h⟩
theorem read_fields {tr:TypeId->List Value->Option (DataW H×List MemPlace)} {g:TypeId->Option (List PT)} {cs:List Value}
 (ih:∀ t cs x pts,tr t cs=some x->g t=some pts->∃ ys,PT.hasAll pts ys/\Reads W cs ys):
 ∀ (fs:List Field) (off:Nat) (xs:List (DataW H×List MemPlace)) (pts:List PT),fs.mapM (fun f=>tr f.type ((cs.drop f.offset).take (P.cellsOf f.type)))=some xs->ptFields g P.cellsOf fs off=some pts->
   ∃ ys,PT.hasAll pts ys/\(pts ≠ []->off+ys.length<=cs.length)/\∀ i,i<ys.length->VR W (fun b=>b<W.heap.size) (cs.getD (off+i) undef) (ys.getD i .gone) []
 | [],off,xs,pts,_,hp=>by
   simp only [ptFields,Option.some.injEq] at hp
   subst hp
   exact ⟨[],rfl,fun h=>absurd rfl h,fun i hi=>by simp at hi⟩
 | f::fs,off,xs,pts,hx,hp=>by
   rw [List.mapM_cons] at hx
   simp only [Option.bind_eq_bind,Option.bind_eq_some_iff,Option.pure_def,Option.some.injEq] at hx
   obtain ⟨x,h1,xs',h2,rfl⟩:=hx
   simp only [ptFields] at hp
   split at hp
   ·rename_i ps hg
    split at hp
    ·rename_i hc
     simp only [Option.map_eq_some_iff] at hp
     obtain ⟨pts',h3,rfl⟩:=hp
     obtain ⟨ys,k1,k2,k3⟩:=ih _ _ _ _ h1 hg
     obtain ⟨zs,j1,j2,j3⟩:=read_fields ih fs _ _ _ h2 h3
     have hyl:=hasAll_len k1
     rw [hc.1] at k2 k3
     have hle:ys ≠ []->off+ys.length<=cs.length:=by
      intro hne
      have h4:ys.length≠0:=fun h0=>hne (List.eq_nil_of_length_eq_zero h0)
      simp at k2
      omega
     refine ⟨ys++zs,hasAll_append k1 j1,fun _=> ?_,fun i hi=> ?_⟩
     ·simp only [List.length_append]
      by_cases hz:pts'=[]
      ·subst hz
       have:zs=[]:=by simpa [PT.hasAll] using j1
       subst this
       by_cases hy:ys=[]
       ·subst hy
        rename_i hne
        simp only [List.length_nil] at hyl
        have:ps=[]:=List.eq_nil_of_length_eq_zero hyl.symm
        subst this
        exact absurd rfl hne
       ·have:=hle hy;simpa using this
      ·have:=j2 hz;omega
     ·by_cases h0:i<ys.length
      ·have h5:=k3 i h0
       have e1:((cs.drop off).take (P.cellsOf f.type)).getD i undef=cs.getD (off+i) undef:=by
        simp only [List.getD,List.getElem?_take,List.getElem?_drop]
        rw [if_pos (by rw [<- hc.2,<- hyl];exact h0)]
       have e2:(ys++zs).getD i .gone=ys.getD i .gone:=by simp only [List.getD];rw [List.getElem?_append_left h0]
       rw [e2,<- e1];exact h5
      ·have h5:=j3 (i - ys.length) (by simp at hi;omega)
       have e2:(ys++zs).getD i .gone=zs.getD (i - ys.length) .gone:=by simp only [List.getD];rw [List.getElem?_append_right (by omega)]
       rw [e2]
       have e3:off+ps.length+(i - ys.length)=off+i:=by omega
       rw [e3] at h5;exact h5
    ·cases hp
   ·cases hp
theorem read_ok {base:Nat} {spare:Nat->Bool} {held:Bool}:∀ (fuel:Nat) (t:TypeId) (cs:List Value) (x:DataW H×List MemPlace) (n:Nat) (pts:List PT),
 DataW.trod enc P W base spare held fuel t cs=some x->ptOf P n t=some pts->∃ ys,PT.hasAll pts ys/\Reads W cs ys
 | 0,t,cs,x,n,pts,h,_=>by cases h
 | fuel+1,t,cs,x,0,pts,_,hp=>by cases hp
 | fuel+1,t,cs,x,n+1,pts,h,hp=>by
   unfold DataW.trod at h
   simp only [ptOf] at hp
   split at hp
   ·
    rename_i k hu
    rw [hu] at h
    cases hp
    simp only at h
    split at h <;> first|(cases h;done)|skip
    all_goals (rename_i heq;first|(cases heq;done)|skip)
    rename_i k' m
    cases heq
    split at h
    ·rename_i hc
     obtain ⟨rfl,hwf⟩:=hc
     simp only [Lit.wf,Bool.and_eq_true,decide_eq_true_eq] at hwf
     refine ⟨[.int _ m],?_,.one (.int _ m)⟩
     simp only [PT.hasAll,PT.has]
     exact ⟨_,_,rfl,⟨m,rfl,hwf.1,hwf.2⟩,rfl⟩
    ·cases h
   ·
    rename_i hu
    rw [hu] at h
    cases hp
    simp only at h
    split at h <;> first|(cases h;done)|skip
    all_goals (rename_i heq;first|(cases heq;done)|skip)
    rename_i b
    cases heq
    refine ⟨[.bool b],?_,.one (.bool b)⟩
    simp only [PT.hasAll,PT.has]
    exact ⟨_,_,rfl,⟨b,rfl⟩,rfl⟩
   ·
    rename_i hu
    rw [hu] at h
    cases hp
    simp only at h
    split at h <;> first|(cases h;done)|skip
    all_goals (rename_i heq;first|(cases heq;done)|skip)
    rename_i b
    cases heq
    split at h
    ·rename_i hc
     refine ⟨[.str b],?_,.one (.str b)⟩
     simp only [PT.hasAll,PT.has]
     exact ⟨_,_,rfl,⟨b,rfl,by unfold maxLen at hc;omega⟩,rfl⟩
    ·cases h
   ·
    rename_i e hu
    rw [hu] at h
    split at hp
    ·rename_i es hes
     split at hp
     ·rename_i hc
      obtain ⟨he1,he2,he3⟩:=hc
      cases hp
      simp only at h
      split at h <;> first|(cases h;done)|skip
      all_goals (rename_i heq;first|(cases heq;done)|skip)
      ·
       cases heq
       refine ⟨[.imm es.length []],?_,.one (.imm0 _ none 0)⟩
       simp only [PT.hasAll,PT.has]
       exact ⟨_,_,rfl,⟨[],rfl,by simp,by simp⟩,rfl⟩
      ·rename_i e' a len cap
       cases heq
       split at h
       ·rename_i hb
        simp only [Option.bind_eq_some_iff] at h
        obtain ⟨elems,hel,_⟩:=h
        obtain ⟨_,hall⟩:=mapM_some hel
        have key:∀ i,i<len->∃ ci ys,W.cells? base (a.add (i * P.cellsOf e)) (P.cellsOf e)=some ci/\PT.hasAll es ys/\Reads W ci ys:=by
         intro i hi
         obtain ⟨y,hy⟩:=hall i (by simpa using hi)
         simp only [List.getElem_range,Option.bind_eq_some_iff] at hy
         obtain ⟨ci,h1,h2⟩:=hy
         obtain ⟨ys,h3,h4⟩:=read_ok fuel e ci y n es h2 hes
         exact ⟨ci,ys,h1,h3,h4⟩
        have hmx:len<=9223372036854775807:=by have:=hb.2.1;have:=hb.2.2;unfold maxLen at this;omega
        by_cases hl0:len=0
        ·subst hl0
         refine ⟨[.imm es.length []],?_,.one (.imm0 _ (some a) cap)⟩
         simp only [PT.hasAll,PT.has]
         exact ⟨_,_,rfl,⟨[],rfl,by simp,by simp⟩,rfl⟩
        ·have hspot:a.spot=none:=by
          obtain ⟨ci,ys,h1,_⟩:=key 0 (by omega)
          obtain ⟨_,hcl,hcell⟩:=World.cells?_some h1
          have h2:=hcell 0 (by omega)
          rw [List.getElem?_eq_getElem (by omega)] at h2
          simp only [Nat.zero_mul,Addr.add,if_true] at h2
          unfold World.cell? at h2
          split at h2
          ·split at h2
           ·cases h2
           ·rename_i hn;simpa using hn
          ·cases h2
         obtain ⟨bl,off,sp⟩:=a
         simp only at hspot
         subst hspot
         have hcell:∀ i (hi:i<len),∀ j,j<es.length->W.cell? ⟨bl,off+(i * es.length+j),none⟩=some (((key i hi).choose).getD j undef):=by
          intro i hi j hj
          have h1:=(key i hi).choose_spec.choose_spec.1
          generalize (key i hi).choose=ci at h1 ⊢
          obtain ⟨_,hcl,hcell⟩:=World.cells?_some h1
          have h2:=hcell j (by omega)
          rw [zbh,zbh,<- he1] at h2
          rw [Nat.add_assoc] at h2
          rw [h2,List.getElem?_eq_getElem (by omega),za3 (by omega)]
         let ysOf:Nat->List V:=fun i=>if hi:i<len then(key i hi).choose_spec.choose else []
         let csOf:Nat->List Value:=fun i=>if hi:i<len then(key i hi).choose else []
         have hys:∀ i,i<len->PT.hasAll es (ysOf i)/\Reads W (csOf i) (ysOf i):=by
          intro i hi
          simp only [ysOf,csOf,dif_pos hi]
          exact (key i hi).choose_spec.choose_spec.2
         let el:List V->V:=fun ys=>if isAggT P e then .agg ys else ys.headD .gone
         have hel1:∀ i,i<len->(el (ysOf i)).cells1=ysOf i/\(el (ysOf i)).leaf= !(isAggT P e):=by
          intro i hi
          have hh:=(hys i hi).1
          simp only [el]
          by_cases hag:isAggT P e=true
          ·simp [hag,V.cells1,V.leaf]
          ·rw [if_neg hag]
           have h1:es.length=1:=he3.resolve_left hag
           have hlen:=hasAll_len hh
           have hlf:=hasAll_leaf hh
           match hq:ysOf i,hlen,hlf with
           | [y],_,hlf=>
             have:=hlf y (by simp)
             simp only [List.headD_cons]
             refine ⟨by cases y <;> first|rfl|(cases this;done),by rw [this];simpa using hag⟩
           | [],hlen,_=>simp at hlen;omega
           | _::_::_,hlen,_=>simp at hlen;omega
         have hcells:∀ i,i<len->(el (ysOf i)).cells=ysOf i:=by
          intro i hi
          obtain ⟨h1,h2⟩:=hel1 i hi
          exact (cells_of_cells1 _ (by rw [h1];exact hasAll_leaf (hys i hi).1)).trans h1
         refine ⟨[.imm es.length ((List.range len).map fun i=>el (ysOf i))],?_,.one ?_⟩
         ·simp only [PT.hasAll,PT.has]
          refine ⟨_,_,rfl,⟨_,rfl,by simpa using hmx,fun x hx=> ?_⟩,rfl⟩
          obtain ⟨i,hi,rfl⟩:=List.mem_map.1 hx
          have hi:=List.mem_range.1 hi
          obtain ⟨h1,h2⟩:=hel1 i hi
          exact ⟨h2,by rw [h1];exact (hys i hi).1⟩
         ·have hxl:((List.range len).map fun i=>el (ysOf i)).length=len:=by simp
          have hget:∀ i,i<len->((List.range len).map fun i=>el (ysOf i)).getD i .gone=el (ysOf i):=fun i hi=>by simp [List.getD,hi]
          have:=VR.imm (w:=W) (I:=fun b=>b<W.heap.size) ⟨bl,off,none⟩ cap ((List.range len).map fun i=>el (ysOf i)) es.length (fun q=>(csOf (q / es.length)).getD (q % es.length) undef) rfl
           (by
            obtain ⟨ci,ys,h1,_⟩:=key 0 (by omega)
            have:=World.cells?_block h1 (by omega)
            rw [zbh] at this;exact this)
           he2 (by rw [hxl];exact hb.2.1)
           (fun x hx=>by
            obtain ⟨i,hi,rfl⟩:=List.mem_map.1 hx
            rw [hcells i (List.mem_range.1 hi)]
            exact hasAll_len (hys i (List.mem_range.1 hi)).1)
           (fun q hq=>by
            rw [hxl] at hq
            have h1:q / es.length<len:=Nat.div_lt_of_lt_mul (by rw [Nat.mul_comm];exact hq)
            have h2:=Nat.mod_lt q he2
            have h3:q / es.length * es.length+q % es.length=q:=by rw [Nat.mul_comm];exact Nat.div_add_mod q _
            have:=hcell _ h1 _ h2
            rw [h3] at this
            simp only [csOf,dif_pos h1]
            exact this)
           (fun x hx=>by
            obtain ⟨i,hi,rfl⟩:=List.mem_map.1 hx
            obtain ⟨h1,h2⟩:=hel1 i (List.mem_range.1 hi)
            have h3:=hasAll_leaf (hys i (List.mem_range.1 hi)).1
            rw [<- h1] at h3
            cases hq:el (ysOf i) with
            | agg cs=>
              rw [hq] at h3
              exact List.all_eq_true.2 h3
            | tup vs=>rw [hq] at h3;have:=h3 _ (List.mem_singleton.2 rfl);cases this
            | _=>rfl)
           (fun i j hi hj=>by
            rw [hxl] at hi
            have h1:(i * es.length+j) / es.length=i:=by rw [Nat.add_comm,Nat.mul_comm,Nat.add_mul_div_left _ _ he2,Nat.div_eq_of_lt hj];omega
            have h2:(i * es.length+j) % es.length=j:=by rw [Nat.add_comm,Nat.mul_comm,Nat.add_mul_mod_self_left,Nat.mod_eq_of_lt hj]
            simp only [h1,h2]
            unfold elt
            rw [hget i hi,hcells i hi]
            exact (hys i hi).2.2 j (by rw [hasAll_len (hys i hi).1];exact hj))
          rw [hxl] at this
          exact this
       ·cases h
     ·cases hp
    ·cases hp
   ·
    rename_i fs hu
    rw [hu] at h
    simp only at h
    split at h
    ·rename_i hlen
     simp only [Option.map_eq_some_iff] at h
     obtain ⟨xs,h1,_⟩:=h
     split at hp
     ·rename_i ps hps
      split at hp
      ·rename_i hpl
       cases hp
       obtain ⟨ys,k1,k2,k3⟩:=read_fields (tr:=DataW.trod enc P W base spare held fuel) (g:=ptOf P n) (fun t cs x pts h1 h2=>read_ok fuel t cs x n pts h1 h2) _ 0 _ _ h1 hps
       refine ⟨ys,k1,by rw [hasAll_len k1,hpl,hlen],fun i hi=> ?_⟩
       have:=k3 i hi
       rw [Nat.zero_add] at this;exact this
      ·cases hp
     ·cases hp
    ·cases h
   ·cases hp
end Go.Pm
