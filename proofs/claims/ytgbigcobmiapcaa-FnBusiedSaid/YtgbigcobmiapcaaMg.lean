/- Proved: the law FnBusied answers true at all arguments, for every operating system that has started; no conditions beyond the row's own. -/
import Derived.Test.YtgbigcobmiapcaaMf
import Derived.Laws.IdiomStrings
set_option linter.unusedVariables false
set_option linter.unusedSimpArgs false
namespace Go.Pm
variable {P:Program} {B:Base} {x:Cx} {FV FC:Nat->Nat->List Nat} {FX:List Nat} {a:Act} {ts:List (Option Nat)} {n:Nat}
theorem zvl (h:SR B x FV FC []) (ht:Tied B ts n x a) {o:Oper} {s d el y oy} (ho:o.op=.convert s d y) (hy:za1 ts y oy=true) (hs:P.underlying s=some .string) (hd:P.underlying d=some (.slice el)) (he:P.underlying el=some (.int .u8))
 {b} (hr:x.st.rd oy=some (.str b)):zc6 P o a x.w (Out B n ts a x.st (.own 1 (zc7 b))):=by
 have e1:=zf4 (zaq h ht hy hr)
 have hlen:(zc7 b).length=b.size:=by simp [zc7]
 have hge:=grownCap_ge x.w b.size 0 el
 refine za9 (val:=.slice (some ⟨x.w.heap.size,0,none⟩) (zc7 b).length (grownCap x.w b.size 0 el))
  (w':=x.w.drew.alloc (.cells (bytesRow b (grownCap x.w b.size 0 el)) el ((bytesRow b (grownCap x.w b.size 0 el)).size,(bytesRow b (grownCap x.w b.size 0 el)).size+1))) ?_
  (zr5 (G:=fun _ _=>[]) (cs:=bytesRow b (grownCap x.w b.size 0 el)) (t:=el) h ht (by omega) (by rw [hlen];exact hge) ?_ (fun q hq=>heap_alloc_old x.w.drew _ q hq) (by simp) ⟨by simp,rfl,rfl,rfl⟩ ⟨_,heap_alloc_new x.w.drew _,fun o' _=>by simp;omega⟩ ?_ ?_ ?_
   (fun q=>by rw [zb9];rfl;intro i _ hm;rw [zb6] at hm;cases hm))
 ·simp only [execOp,ho,e1,Sem.run_bind,run_bytes_of_string x.w s d el b hs hd he,Result.andThen_ok,Sem.run_pure,hlen]
 ·simp only [bytesRow,Array.size_append,Array.size_map,Array.size_replicate]
  have:b.data.size=b.size:=rfl
  omega
 ·intro z hz
  obtain ⟨u,_,rfl⟩:=List.mem_map.1 hz
  rfl
 ·intro z hz
  obtain ⟨u,_,rfl⟩:=List.mem_map.1 hz
  rfl
 ·intro i j hi hj
  have:j=0:=by omega
  subst this
  rw [hlen] at hi
  have hi':i<b.data.size:=hi
  have h0:b.data[i]? =some b.data[i]:=Array.getElem?_eq_getElem hi'
  have h1:elt (zc7 b) i 0=zpk b.data[i]:=by unfold elt;simp [zc7,List.getD,h0,zpk,V.cells]
  have h2:(bytesRow b (grownCap x.w b.size 0 el)).getD (i * 1+0) undef=.int .u8 b.data[i].toNat:=by
   simp [bytesRow,Array.getD_eq_getD_getElem?,Array.getElem?_append,hi]
  rw [h1,h2]
  exact VR.int _ _
theorem zg1 (off:Nat):∀ (l:List (Value)) (k:Nat) (cs:Array Value),((l.zipIdx k).foldl (fun cs (c,j)=>cs.setIfInBounds (off+j) c) cs).size=cs.size/\
 ∀ q,q<cs.size->((l.zipIdx k).foldl (fun cs (c,j)=>cs.setIfInBounds (off+j) c) cs).getD q undef=if off+k<=q/\q<off+k+l.length then l.getD (q - (off+k)) undef else cs.getD q undef
 | [],k,cs=>by simp;intro q _ h1 h2;omega
 | v::l,k,cs=>by
   obtain ⟨h1,h2⟩:=zg1 off l (k+1) (cs.setIfInBounds (off+k) v)
   simp only [List.zipIdx_cons,List.foldl_cons]
   refine ⟨by rw [h1];simp,fun q hq=> ?_⟩
   rw [h2 q (by simpa using hq)]
   by_cases hq1:q=off+k
   ·subst hq1
    rw [if_neg (by omega),if_pos (by simp)]
    simp [Array.getD_eq_getD_getElem?,hq]
   ·by_cases hq2:off+(k+1)<=q/\q<off+(k+1)+l.length
    ·rw [if_pos hq2,if_pos (by simp;omega)]
     have:q - (off+k)=(q - (off+(k+1)))+1:=by omega
     rw [this];rfl
    ·rw [if_neg hq2,if_neg (by simp;omega)]
     simp only [Array.getD_eq_getD_getElem?,Array.getElem?_setIfInBounds]
     rw [if_neg (by omega)]
def zdw (k:Nat):List Value->List (Nat×Value)
 | []=>[]
 | v::vs=>(k,v)::zdw (k+1) vs
theorem yb8 (e:Nat):∀ (vs:List Value) (k:Nat) (cs:Array Value),(∀ v∈vs,v.cells.size=e)->(k+vs.length) * e<=cs.size->
 ∃ cs',Instr.fill (fun i=>some (i * e,e)) cs (zdw k vs)=some cs'/\cs'.size=cs.size/\(∀ q,q<k * e->cs'.getD q undef=cs.getD q undef)/\
   ∀ i j,i<vs.length->j<e->cs'.getD ((k+i) * e+j) undef=(vs.getD i undef).cells.getD j undef
 | [],k,cs,_,_=>⟨cs,rfl,rfl,fun _ _=>rfl,fun i j hi=>by simp at hi⟩
 | v::vs,k,cs,hv,hsz=>by
   have hve:=hv v (by simp)
   have hsz':(k+1+vs.length) * e<=cs.size:=by rw [List.length_cons] at hsz;rwa [show k+1+vs.length=k+(vs.length+1) by omega]
   have hk:k * e+e<=cs.size:=by
    have:(k+1) * e<=(k+1+vs.length) * e:=Nat.mul_le_mul_right _ (by omega)
    rw [Nat.add_mul,Nat.one_mul] at this;omega
   simp only [zdw,Instr.fill]
   rw [if_neg (by simp [hve];omega)]
   obtain ⟨f1,f2⟩:=zg1 (k * e) v.cells.toList 0 cs
   have e0:v.cells.zipIdx.foldl (fun cs (c,j)=>cs.setIfInBounds (k * e+j) c) cs=(v.cells.toList.zipIdx 0).foldl (fun cs (c,j)=>cs.setIfInBounds (k * e+j) c) cs:=by
    rw [<- Array.foldl_toList,Array.toList_zipIdx]
   rw [e0]
   generalize hcs:(v.cells.toList.zipIdx 0).foldl (fun cs (c,j)=>cs.setIfInBounds (k * e+j) c) cs=cs1 at f1 f2
   obtain ⟨cs',g1,g2,g3,g4⟩:=yb8 e vs (k+1) cs1 (fun u hu=>hv u (by simp [hu])) (by rw [f1];exact hsz')
   refine ⟨cs',g1,g2.trans f1,?_,?_⟩
   ·intro q hq
    rw [g3 q (by rw [Nat.add_mul];omega),f2 q (by omega),if_neg (by omega)]
   ·intro i j hi hj
    cases i with
    | zero=>
      simp only [Nat.add_zero,List.getD_cons_zero]
      have hq:k * e+j<(k+1) * e:=by rw [Nat.add_mul,Nat.one_mul];omega
      rw [g3 _ hq,f2 _ (by omega),if_pos (by simp;omega),<- zbb]
      congr 1;omega
    | succ i=>
      have:=g4 i j (by simpa using hi) hj
      rw [show k+1+i=k+(i+1) by omega] at this
      rw [this];simp
def zjw (ts:List (Option Nat)) (k:Nat):List (Nat×Operand)->List Opnd->Bool
 | [],[]=>true
 | (i,y)::ys,o::os=>i == k&&za1 ts y o&&zjw ts (k+1) ys os
 | _,_=>false
theorem zgv:∀ {k:Nat} {ys:List (Nat×Operand)} {os:List Opnd},zjw ts k ys os=true->zcb ts (ys.map (·.2)) os=true/\ys.map (fun (i,x)=>(i,a.eval x))=zdw k ((ys.map (·.2)).map a.eval)
 | _,[],[],_=>⟨rfl,rfl⟩
 | k,(i,y)::ys,o::os,h=>by
   simp only [zjw,Bool.and_eq_true,beq_iff_eq] at h
   obtain ⟨⟨rfl,h1⟩,h2⟩:=h
   obtain ⟨h3,h4⟩:=zgv h2
   refine ⟨by simp [zcb,h1,h3],?_⟩
   simp only [List.map_cons,zdw,h4]
 | _,[],_::_,h=>by cases h
 | _,_::_,[],h=>by cases h
theorem yiz (h:SR B x FV FC []) (ht:Tied B ts n x a) {o:Oper} {t el:TypeId} {len:Nat} {parts:Array (Nat×Operand)} {os:List Opnd} {e:Nat} {frz:Bool} (ho:o.op=.buildSlice t len parts) (hp:zjw ts 0 parts.toList os=true)
 (hlen:parts.toList.length=len) (hu:P.underlying t=some (.slice el)) (hsz:zcn P el=some e) (he:0<e) (hbig:len * e<=2 ^ 24) (hzero:∃ i v,P.info? el=some i/\i.zero=some v)
 {vs ys s1} (hr:x.st.rds os=some vs) (htk:x.st.takesAll frz vs=some (ys,s1)) (hys:∀ y∈ys,y.cells.length=e):zc6 P o a x.w (Out B n ts a s1 (.own e ys)):=by
 obtain ⟨hops,hparts⟩:=zgv (a:=a) hp
 obtain ⟨k1,k2⟩:=zk3 h ht hops hr
 have hl:vs.length=len:=by rw [k1];simpa using hlen
 obtain ⟨I',FV',FC',FX1,G,j1,j2,j3,j4,j5,j6⟩:=zd0 frz (x0:=x) vs (fun i=>(((parts.toList.map (·.2)).map a.eval).getD i undef)) (I:=x.I) (s:=x.st) h (fun _ h=>h) (.refl _) (fun i hi=>k2 i (by omega)) htk
 have hylen:ys.length=len:=j4.trans hl
 have hmem:∀ i,i<len->ys.getD i .gone∈ys:=fun i hi=>by rw [za3 (by omega)];exact List.getElem_mem _
 have hvl:((parts.toList.map (·.2)).map a.eval).length=len:=by simpa using hlen
 have hcells:∀ v∈(parts.toList.map (·.2)).map a.eval,v.cells.size=e:=by
  intro v hv
  obtain ⟨i,hi,rfl⟩:=List.mem_iff_getElem.1 hv
  rw [hvl] at hi
  obtain ⟨h1,h2,h3,_⟩:=j5 i (by omega)
  have:=(zcf h1 h2 h3).1
  rw [hys _ (hmem i hi)] at this
  rw [<- this,za3 (by rw [hvl];exact hi)]
 obtain ⟨ti,zv,hti,hzv⟩:=hzero
 have hsize:ti.size=e:=by unfold zcn at hsz;rw [hti] at hsz;simpa using hsz
 obtain ⟨cs',f1,f2,_,f4⟩:=yb8 e ((parts.toList.map (·.2)).map a.eval) 0 ((Array.range (len * e)).map fun j=>((if len * e=0 then #[] else zv.cells:Array Value))[j % ((if len * e=0 then #[] else zv.cells:Array Value)).size]!) hcells
  (by simp only [Array.size_map,Array.size_range,Nat.zero_add,hvl];exact Nat.le_refl _)
 have hcs:cs'.size=len * e:=by rw [f2];simp
 refine za9 (val:=.slice (some ⟨x.w.heap.size,0,none⟩) ys.length len) (w':=x.w.alloc (.cells cs' el)) ?_
  (zr5 (x:=⟨x.w,I',x.φ,x.tm,s1⟩) (G:=G) (cs:=cs') (t:=el) j2 (ht.gho j6) he (by omega) (by omega) (fun b hb=>heap_alloc_old x.w _ b hb) (by simp) ⟨by simp,rfl,rfl,rfl⟩ ⟨(0,0),heap_alloc_new _ _,fun o _=>by simp⟩ hys ?_ ?_ ?_)
 ·have hmap:(parts.map fun(i,x)=>(i,a.eval x)).toList=zdw 0 ((parts.toList.map (·.2)).map a.eval):=by
   rw [Array.toList_map,hparts]
  have hnb:¬(2 ^ 24<len * ti.size):=by rw [hsize];omega
  simp only [execOp,ho,Instr.buildSlice,Sem.run_bind,run_underlying hu,Result.andThen_ok,sizeOf,typeInfo,run_program,hti,Sem.run_pure]
  rw [hsize]
  rw [if_neg (by omega)]
  by_cases h0:len * e=0
  ·simp only [h0,if_true] at f1 ⊢
   simp only [Sem.run_bind,Sem.run_pure,Result.andThen_ok,hmap,f1,newRow,run_newObj,hylen,World.alloc_eq]
  ·simp only [h0,if_false] at f1 ⊢
   simp only [Sem.run_bind,Sem.run_pure,Result.andThen_ok,zeroValue,typeInfo,run_program,hti,hzv,hmap,f1,newRow,run_newObj,hylen,World.alloc_eq]
 ·intro y hy
  obtain ⟨i,hi,rfl⟩:=List.mem_iff_getElem.1 hy
  obtain ⟨h1,h2,h3,h4⟩:=j5 i (by omega)
  rw [za3 hi] at h2 h4
  exact ykl h2 fun c hc=>zav (h4 c hc).2
 ·intro i j hi hj
  obtain ⟨h1,h2,h3,h4⟩:=j5 i (by omega)
  have hye:=hys _ (hmem i (by omega))
  have h5:=f4 i j (by rw [hvl];omega) hj
  rw [Nat.zero_add] at h5
  rw [h5,(zcf h1 h2 h3).2 j (by rw [hye];exact hj)]
  exact (h4 j (by rw [hye];exact hj)).1
 ·intro b
  rw [j3 b,hylen,hl]
  simp only [List.count_nil,Nat.add_zero]
  exact zaa b fun i hi=>by rw [hys _ (hmem i hi)]
end Go.Pm
